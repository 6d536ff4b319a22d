/-
  The locks, walked: serve.
-/
import Derived.Test.YtelbpnlpmaihhaaLocksW2
import Derived.Test.YtelbpnlpmaihhaaLocksOpen
namespace Go.Proofs.Ytelbpnlpmaihhaa
set_option linter.unusedVariables false
set_option linter.unusedSimpArgs false
open Go.RowKit

def slen : Value → Nat
  | .slice _ n _ => n
  | _ => 0

theorem insD_mem {zs : List Int} {x y : Int} : y ∈ insD zs x ↔ y = x ∨ y ∈ zs := by
  unfold insD
  simp only [List.mem_append, List.mem_singleton]
  constructor
  · rintro ((h | h) | h)
    · exact .inr (List.mem_of_mem_take h)
    · exact .inl h
    · exact .inr (List.mem_of_mem_drop h)
  · rintro (h | h)
    · exact .inl (.inr h)
    · rw [← List.take_append_drop (zs.countP (· < x)) zs] at h
      rcases List.mem_append.1 h with h | h
      · exact .inl (.inl h)
      · exact .inr h

theorem sorted_split {zs : List Int} (hs : zs.Pairwise (· ≤ ·)) (x : Int) : (∀ y ∈ zs.take (zs.countP (· < x)), y < x) ∧ ∀ y ∈ zs.drop (zs.countP (· < x)), x ≤ y := by
  induction zs with
  | nil => simp
  | cons z r ih =>
    obtain ⟨h1, h2⟩ := List.pairwise_cons.1 hs
    obtain ⟨i1, i2⟩ := ih h2
    by_cases hz : z < x
    · have e : (z :: r).countP (· < x) = r.countP (· < x) + 1 := by rw [List.countP_cons_of_pos (by simpa using hz)]
      rw [e]
      refine ⟨?_, by simpa using i2⟩
      intro y hy
      rw [List.take_succ_cons] at hy
      rcases List.mem_cons.1 hy with rfl | hy
      · exact hz
      · exact i1 y hy
    · have e : (z :: r).countP (· < x) = 0 := by
        rw [List.countP_eq_zero]
        intro y hy
        rcases List.mem_cons.1 hy with rfl | hy
        · simpa using hz
        · have := h1 y hy
          simp; omega
      rw [e]
      refine ⟨by simp, ?_⟩
      intro y hy
      rw [List.drop_zero] at hy
      rcases List.mem_cons.1 hy with rfl | hy
      · omega
      · have := h1 y hy; omega

theorem insD_sorted {zs : List Int} (hs : zs.Pairwise (· ≤ ·)) (x : Int) : (insD zs x).Pairwise (· ≤ ·) := by
  obtain ⟨h1, h2⟩ := sorted_split hs x
  unfold insD
  rw [List.append_assoc]
  refine List.pairwise_append.2 ⟨hs.sublist (List.take_sublist _ _), ?_, ?_⟩
  · rw [List.singleton_append]
    exact List.pairwise_cons.2 ⟨fun y hy => h2 y hy, hs.sublist (List.drop_sublist _ _)⟩
  · intro y hy z hz
    have := h1 y hy
    rw [List.singleton_append] at hz
    rcases List.mem_cons.1 hz with rfl | hz
    · omega
    · have := h2 z hz; omega

theorem grantD_facts (tok : Int) (x : LockS) (w : WaitS) (hp : x.held.Pairwise (· ≤ ·)) (ht : 0 ≤ tok ∧ tok ≤ tokLast) :
    (grantD tok x w).2.2.held.Pairwise (· ≤ ·) ∧ (grantD tok x w).2.2.held.length ≤ x.held.length + 1 ∧ (grantD tok x w).2.2.queue = x.queue ∧ 0 ≤ (grantD tok x w).2.1 ∧ (grantD tok x w).2.1 ≤ tokLast := by
  unfold grantD
  unfold tokLast at *
  split
  · exact ⟨insD_sorted hp _, by simp [insD_length], rfl, ht.1, ht.2⟩
  · split
    · exact ⟨hp, by simp, rfl, ht.1, ht.2⟩
    · refine ⟨insD_sorted hp _, by simp [insD_length], rfl, by simp only; omega, by simp only; omega⟩

theorem grantD_q (tok : Int) (x : LockS) (w : WaitS) (q : List WaitS) : (grantD tok x w).1 = (grantD tok ⟨x.held, x.writer, q⟩ w).1 ∧ (grantD tok x w).2.1 = (grantD tok ⟨x.held, x.writer, q⟩ w).2.1 ∧ (grantD tok x w).2.2.held = (grantD tok ⟨x.held, x.writer, q⟩ w).2.2.held ∧ (grantD tok x w).2.2.writer = (grantD tok ⟨x.held, x.writer, q⟩ w).2.2.writer := by
  unfold grantD
  split
  · exact ⟨rfl, rfl, rfl, rfl⟩
  · split <;> exact ⟨rfl, rfl, rfl, rfl⟩

/-- serveL at a lock. -/
def servL (tok : Int) (x : LockS) : List RepS × Int × LockS := serveL x.queue tok x.held x.writer

theorem servL_step {tok : Int} {h : List Int} {wr : Bool} {w : WaitS} {q : List WaitS} (hb : ¬ (h ≠ [] ∧ (wr = true ∨ w.reader = false))) :
    servL tok ⟨h, wr, w :: q⟩ = ((grantD tok ⟨h, wr, q⟩ w).1 :: (servL (grantD tok ⟨h, wr, q⟩ w).2.1 (grantD tok ⟨h, wr, q⟩ w).2.2).1, (servL (grantD tok ⟨h, wr, q⟩ w).2.1 (grantD tok ⟨h, wr, q⟩ w).2.2).2) := by
  have h2 : (grantD tok ⟨h, wr, q⟩ w).2.2.queue = q := by
    unfold grantD
    split
    · rfl
    · split <;> rfl
  obtain ⟨a1, a2, a3, a4⟩ := grantD_q tok ⟨h, wr, q⟩ w []
  unfold servL
  simp only
  rw [serveL, if_neg hb, h2, a1, a2, a3, a4]
theorem servL_stop {tok : Int} {h : List Int} {wr : Bool} {w : WaitS} {q : List WaitS} (hb : h ≠ [] ∧ (wr = true ∨ w.reader = false)) : servL tok ⟨h, wr, w :: q⟩ = ([], tok, ⟨h, wr, w :: q⟩) := by
  unfold servL
  simp only
  rw [serveL, if_pos hb]
theorem servL_nil {tok : Int} {h : List Int} {wr : Bool} : servL tok ⟨h, wr, []⟩ = ([], tok, ⟨h, wr, []⟩) := rfl

/-- What holds at a round's head in serve. -/
structure ServI (tok : Int) (x : LockS) (rs : List RepS) (tok' : Int) (x' : LockS) : Prop where
  rest : servL tok x = (rs ++ (servL tok' x').1, (servL tok' x').2)
  sorted : x'.held.Pairwise (· ≤ ·)
  len : rs.length + x'.queue.length = x.queue.length
  held : x'.held.length ≤ x.held.length + rs.length
  t0 : 0 ≤ tok'
  t1 : tok' ≤ tokLast

theorem ServI.init {tok : Int} {x : LockS} (hp : x.held.Pairwise (· ≤ ·)) (ht : 0 ≤ tok ∧ tok ≤ tokLast) : ServI tok x [] tok x :=
  ⟨rfl, hp, by simp, by simp, ht.1, ht.2⟩
theorem ServI.step {tok tok' : Int} {x : LockS} {rs : List RepS} {h : List Int} {wr : Bool} {w : WaitS} {q : List WaitS} (hi : ServI tok x rs tok' ⟨h, wr, w :: q⟩) (hb : ¬ (h ≠ [] ∧ (wr = true ∨ w.reader = false))) :
    ServI tok x (rs ++ [(grantD tok' ⟨h, wr, q⟩ w).1]) (grantD tok' ⟨h, wr, q⟩ w).2.1 (grantD tok' ⟨h, wr, q⟩ w).2.2 := by
  obtain ⟨f1, f2, f3, f4, f5⟩ := grantD_facts tok' ⟨h, wr, q⟩ w hi.sorted ⟨hi.t0, hi.t1⟩
  refine ⟨?_, f1, ?_, ?_, f4, f5⟩
  · rw [hi.rest, servL_step hb]
    simp
  · rw [f3, List.length_append, List.length_singleton]
    have := hi.len
    simp only [List.length_cons] at this
    simp only
    omega
  · have := hi.held
    rw [List.length_append, List.length_singleton]
    simp only at this f2
    omega

set_option maxRecDepth 100000 in
set_option maxHeartbeats 4000000 in
theorem serve_c (w0 w : World) (R : List Hp) (g : Nat) (σ : LocksS) (nm : ByteArray) (x : LockS) (h : LocksSt w0 w g σ R) (hx : aget σ.l nm = some x) (hp : x.held.Pairwise (· ≤ ·)) (hb : x.held.length + x.queue.length ≤ 10000000) (ht : 0 ≤ σ.tok ∧ σ.tok ≤ tokLast) :
    Calls Try.prog 41 #[.pointer (some ⟨g, 0, none⟩), .string nm] w fun e w' => ∃ ao cap, e = .returned (.slice ao (serveD σ nm x).1.length cap) ∧ LocksSt w0 w' g (serveD σ nm x).2 (.row 38 5 ao ((serveD σ nm x).1).length cap (((serveD σ nm x).1).flatMap RepS.cells) :: R) := by
  obtain ⟨m, Z, i, z, hZ, hi, hz, rfl, hS⟩ := locks_open h hx
  have hlk := locks_look hz
  have hki : (Z.map kvL)[i]? = some (Value.string nm, Value.pointer (some ⟨z.blk, 0, none⟩)) := by rw [List.getElem?_map, hz]; rfl
  have hfin : serveD σ nm z.s = ((servL σ.tok z.s).1, if (servL σ.tok z.s).2.2.held = [] then ⟨adel σ.l nm, (servL σ.tok z.s).2.1⟩ else ⟨aput σ.l nm (servL σ.tok z.s).2.2, (servL σ.tok z.s).2.1⟩) := rfl
  have HF := Lib.hid hfin
  have HZ := Lib.hid (And.intro hZ (And.intro hi hz))
  have hI := ServI.init hp ht
  have hq0 := Lib.hid hb
  obtain ⟨D, hD⟩ : ∃ D, (Z.eraseIdx i).flatMap lhp ++ R = D := ⟨_, rfl⟩
  rw [hD] at hS
  have HD := Lib.hid hD
  obtain ⟨kvs, hkv⟩ : ∃ kvs, Z.map kvL = kvs := ⟨_, rfl⟩
  rw [hkv] at hS hlk hki
  have HKV := Lib.hid hkv
  obtain ⟨blk, hblk⟩ : ∃ b, z.blk = b := ⟨_, rfl⟩
  have HB := Lib.hid hblk
  rw [hblk] at hlk hki
  have HKI := Lib.hid hki
  clear hfin hZ hi hz hp ht h hx hD hkv hblk hki
  have hS := hS.nilRow 38 5
  go_enter Try.func41, Try.ntmps41
  go_upto_block 0 with (first | ((with_reducible show WGd ..); (with_reducible apply wpA_guard); exact rfl; skip) | ((with_reducible apply wpA_lookup hS 2 (z := .pointer none) (r := some (.pointer (some ⟨blk, 0, none⟩)))); exact rfl; exact rfl; exact rfl; exact Try.underlying66; exact Try.underlying9; exact trivial; kernel_rfl; exact hlk; dsimp only [Option.getD, Option.isSome, if_true, Bool.false_eq_true, if_false]) | ((with_reducible show WLd ..); (with_reducible apply wpA_load); exact rfl; (first | ((with_reducible apply St.cellI hS); (focus repeat constructor); exact rfl) | assumption); kernel_rfl) | ((with_reducible show WSt ..); (with_reducible apply wpA_store1I hS); exact rfl; (focus repeat constructor); exact rfl; exact rfl; exact rfl; exact rfl; kernel_rfl; intro wx hS; (try simp only [Act.put, List.setIfInBounds_toArray, List.set_cons_zero, List.set_cons_succ]); (try simp only [Act.eval, Array.getD_eq_getD_getElem?, List.getElem?_toArray, List.getElem?_cons_succ, List.getElem?_cons_zero, Option.getD_some, List.set_cons_succ, List.set_cons_zero, Value.cells, List.toList_toArray] at hS)) | ((with_reducible show WBx ..); (with_reducible apply wpA_box hS); exact rfl; exact rfl; intro _ wx hS; (try simp only [Act.put, List.setIfInBounds_toArray, List.set_cons_zero, List.set_cons_succ]); (try simp only [Act.eval, Array.getD_eq_getD_getElem?, List.getElem?_toArray, List.getElem?_cons_succ, List.getElem?_cons_zero, Option.getD_some, List.set_cons_succ, List.set_cons_zero, Value.cells, List.toList_toArray] at hS)))
  go_cut [6] (fun out wr => ∃ (rs : List RepS) (tok' : Int) (z' : LM) (ao : Option Addr) (cap : Nat), out = .slice ao rs.length cap ∧ z'.blk = blk ∧ ServI σ.tok z.s rs tok' z'.s ∧ servL tok' z'.s = ([], tok', z'.s) ∧
    St w0 wr (.row 38 5 ao (rs).length cap ((rs).flatMap RepS.cells) :: .cells g [.map (some m), .int .u64 tok'] 68 :: .mp m .string kvs :: (z'.hp ++ D)))
  case first =>
    go_wp2_with (first | ((with_reducible show WGd ..); (with_reducible apply wpA_guard); exact rfl; skip) | ((with_reducible show WLd ..); (with_reducible apply wpA_load); exact rfl; (first | ((with_reducible apply St.cellI hS); (focus repeat constructor); exact rfl) | assumption); kernel_rfl) | ((with_reducible show WSt ..); (with_reducible apply wpA_store1I hS); exact rfl; (focus repeat constructor); exact rfl; exact rfl; exact rfl; exact rfl; kernel_rfl; intro wx hS; (try simp only [Act.put, List.setIfInBounds_toArray, List.set_cons_zero, List.set_cons_succ]); (try simp only [Act.eval, Array.getD_eq_getD_getElem?, List.getElem?_toArray, List.getElem?_cons_succ, List.getElem?_cons_zero, Option.getD_some, List.set_cons_succ, List.set_cons_zero, Value.cells, List.toList_toArray] at hS)) | ((with_reducible show WBx ..); (with_reducible apply wpA_box hS); exact rfl; exact rfl; intro _ wx hS; (try simp only [Act.put, List.setIfInBounds_toArray, List.set_cons_zero, List.set_cons_succ]); (try simp only [Act.eval, Array.getD_eq_getD_getElem?, List.getElem?_toArray, List.getElem?_cons_succ, List.getElem?_cons_zero, Option.getD_some, List.set_cons_succ, List.set_cons_zero, Value.cells, List.toList_toArray] at hS)))
    go_loopw [6] (fun out wr => ∃ (rs : List RepS) (tok' : Int) (z' : LM) (ao : Option Addr) (cap : Nat), out = .slice ao rs.length cap ∧ z'.blk = blk ∧ ServI σ.tok z.s rs tok' z'.s ∧
      St w0 wr (.row 38 5 ao (rs).length cap ((rs).flatMap RepS.cells) :: .cells g [.map (some m), .int .u64 tok'] 68 :: .mp m .string kvs :: (z'.hp ++ D))) (fun out _ => z.s.queue.length - slen out)
    case atStart => exact ⟨[], σ.tok, z, none, 0, rfl, HB.out, hI, hS⟩
    case round =>
      clear hS hI hlk
      obtain ⟨rs, tok', z', ao, cap, rfl, hzb, hI, hS⟩ := hrel
      obtain ⟨blk', ha, hc, qa, qc, ⟨held, wrt, queue⟩⟩ := z'
      simp only at hzb
      subst hzb
      simp only [LM.hp, List.cons_append, List.nil_append] at hS
      simp only at hI
      cases queue with
      | nil =>
        go_wp2_with (first | ((with_reducible show WGd ..); (with_reducible apply wpA_guard); exact rfl; skip) | ((with_reducible show WLd ..); (with_reducible apply wpA_load); exact rfl; (first | ((with_reducible apply St.cellI hS); (focus repeat constructor); exact rfl) | assumption); kernel_rfl) | ((with_reducible show WSt ..); (with_reducible apply wpA_store1I hS); exact rfl; (focus repeat constructor); exact rfl; exact rfl; exact rfl; exact rfl; kernel_rfl; intro wx hS; (try simp only [Act.put, List.setIfInBounds_toArray, List.set_cons_zero, List.set_cons_succ]); (try simp only [Act.eval, Array.getD_eq_getD_getElem?, List.getElem?_toArray, List.getElem?_cons_succ, List.getElem?_cons_zero, Option.getD_some, List.set_cons_succ, List.set_cons_zero, Value.cells, List.toList_toArray] at hS)) | ((with_reducible show WBx ..); (with_reducible apply wpA_box hS); exact rfl; exact rfl; intro _ wx hS; (try simp only [Act.put, List.setIfInBounds_toArray, List.set_cons_zero, List.set_cons_succ]); (try simp only [Act.eval, Array.getD_eq_getD_getElem?, List.getElem?_toArray, List.getElem?_cons_succ, List.getElem?_cons_zero, Option.getD_some, List.set_cons_succ, List.set_cons_zero, Value.cells, List.toList_toArray] at hS)))
        go_meet
        exact ⟨rs, tok', ⟨blk', ha, hc, qa, qc, ⟨held, wrt, []⟩⟩, ao, cap, rfl, rfl, hI, servL_nil, hS⟩
      | cons y q =>
        obtain ⟨ses, seq, rd⟩ := y
        rcases row_head (hS.at_ 5 rfl) with ⟨_, hh, _⟩ | ⟨⟨gq, rfl⟩, hqc⟩
        · simp at hh
        simp only [List.length_cons] at hS hqc
        have hrw : ∀ w, St w0 w (.row 38 5 ao (rs).length cap ((rs).flatMap RepS.cells) :: .cells g [.map (some m), .int .u64 tok'] 68 :: .mp m .string kvs :: .cells blk' [.slice ha held.length hc, .bool wrt, .slice (some ⟨gq, 0, none⟩) (q.length + 1) qc] 75 :: .row 3 1 ha held.length hc (held.map (Value.int .i64)) :: .row 70 3 (some ⟨gq, 0, none⟩) (q.length + 1) qc ((⟨ses, seq, rd⟩ :: q : List WaitS).flatMap WaitS.cells) :: D) →
            w.rangeAt gq 0 [.int .i64 ses, .int .i64 seq, .bool rd] := fun w h => row_range (h.at_ 5 rfl) (fun i v hv => by
          rw [List.flatMap_cons, List.getElem?_append_left (by have := (List.getElem?_eq_some_iff.1 hv).1; simpa [WaitS.cells] using this), Nat.zero_add]; exact hv)
        have HRW := Lib.hid hrw
        have hlen := hI.len
        have hheld := hI.held
        have ht0 := hI.t0
        have ht1 := hI.t1
        simp only [List.length_cons] at hlen hheld
        clear hrw
        have HI := Lib.hid hI
        clear hI
        have hsrc : ∀ (A : Hp) (c : Nat) (ad : Addr), (q.length = 0 ∨ ad = ⟨gq, 3, none⟩) → ∀ w, St w0 w (A :: .row 38 5 ao (rs).length cap ((rs).flatMap RepS.cells) :: .cells g [.map (some m), .int .u64 tok'] 68 :: .mp m .string kvs :: .cells blk' [.slice ha held.length hc, .bool wrt, .slice (some ⟨gq, 0, none⟩) (q.length + 1) qc] 75 :: .row 3 1 ha held.length hc (held.map (Value.int .i64)) :: .row 70 3 (some ⟨gq, 0, none⟩) (q.length + 1) qc ((⟨ses, seq, rd⟩ :: q : List WaitS).flatMap WaitS.cells) :: D) →
            Src Try.prog w 3 (.slice (some ad) q.length c) q.length (q.flatMap WaitS.cells) := fun A c ad had w h => by
          have := Src.from_ (P := Try.prog) (k := 1) (m := q.length) (c := c) (ad := ad) (h.at_ 6 rfl) (by omega) (by simpa using had) (fun u hu => by
            obtain ⟨r, _, hr⟩ := List.mem_flatMap.1 hu
            simp [WaitS.cells] at hr
            rcases hr with rfl | rfl | rfl <;> rfl)
          simpa [List.flatMap_cons, WaitS.cells] using this
        have HSRC := Lib.hid hsrc
        clear hsrc
        have HSO := Lib.hid (HI.out.sorted)
        by_cases hh0 : held = []
        · have hdec : decide (0 < held.length) = false := by simp [hh0]
          have HH0 := Lib.hid hh0
          clear hh0
          by_cases hqc1 : qc = 1
          · subst hqc1
            obtain rfl : q = [] := List.eq_nil_of_length_eq_zero (by omega)
            go_wp2_with (first | ((with_reducible show WGd ..); (with_reducible apply wpA_guard); exact rfl; skip) | ((with_reducible show WLd ..); (with_reducible apply wpA_loadN (t := 70)); exact rfl; (first | exact HRW.out _ hS | (first | exact Hp.range hS 0 rfl _ 3 | exact Hp.range hS 1 rfl _ 3 | exact Hp.range hS 2 rfl _ 3 | exact Hp.range hS 3 rfl _ 3 | exact Hp.range hS 4 rfl _ 3 | exact Hp.range hS 5 rfl _ 3 | exact Hp.range hS 6 rfl _ 3 | exact Hp.range hS 7 rfl _ 3 | exact Hp.range hS 8 rfl _ 3 | exact Hp.range hS 9 rfl _ 3)); kernel_rfl; kernel_rfl; (try simp only [Act.put, List.setIfInBounds_toArray, List.set_cons_zero, List.set_cons_succ])) | ((first | ((with_reducible show WAl ..); (with_reducible apply wpA_alloc (t := 70) hS (v := .agg #[.int .i64 0, .int .i64 0, .bool false])); kernel_rfl; exact rfl; intro vb wx hS) | ((with_reducible show WBs ..); (with_reducible apply wpA_oneN hS (z := .agg #[.int .i64 0, .int .i64 0, .int .i64 0, .int .u64 0, .int .i64 0]) (bytes := 40) (size := 5)); exact Try.underlying26; kernel_rfl; exact rfl; exact rfl; exact rfl; exact (by decide); exact (by decide); intro _ wx hS) | ((with_reducible show WBx ..); (with_reducible apply wpA_box hS); exact rfl; exact rfl; intro _ wx hS)); (try simp only [Act.put, List.setIfInBounds_toArray, List.set_cons_zero, List.set_cons_succ]); (try simp only [Act.eval, Array.getD_eq_getD_getElem?, List.getElem?_toArray, List.getElem?_cons_succ, List.getElem?_cons_zero, Option.getD_some, List.set_cons_succ, List.set_cons_zero, Value.cells, List.toList_toArray] at hS)) | ((with_reducible show WSt ..); (with_reducible apply wpA_storeI hS); exact rfl; (focus repeat constructor); exact rfl; exact rfl; exact rfl; exact (Nat.le_of_ble_eq_true rfl); kernel_rfl; intro wx hS; (try simp only [Act.put, List.setIfInBounds_toArray, List.set_cons_zero, List.set_cons_succ]); (try simp only [Act.eval, Array.getD_eq_getD_getElem?, List.getElem?_toArray, List.getElem?_cons_succ, List.getElem?_cons_zero, Option.getD_some, List.set_cons_succ, List.set_cons_zero, Value.cells, List.toList_toArray] at hS); (try simp only [List.take_zero, List.take_succ_cons, List.nil_append, List.cons_append, List.length_cons, List.length_nil, Nat.reduceAdd, Nat.zero_add, List.drop_succ_cons, List.drop_zero, List.drop_nil, List.append_nil] at hS)) | (go_at_call 81; with_reducible refine (cloneW hS (m := 0) (c := 0) (news := []) (fun w h => Src.slice (by simp) (by simp) (by simp)) (by omega)).mono ?_; rintro _ _ ⟨qa2, qc2, rfl, hS⟩; ((try simp only [List.set_cons_succ, List.set_cons_zero] at hS); replace hS := hS.sel [3, 5, 6, 0, 1, 2, 4] 8 (by decide) (by decide) (by simp); simp only [List.filterMap_cons, List.filterMap_nil, List.getElem?_cons_succ, List.getElem?_cons_zero, List.drop_succ_cons, List.drop_zero, List.cons_append, List.nil_append] at hS)) | (go_at_call 33; with_reducible refine (grant_c w0 _ _ g m tok' ⟨blk', ha, hc, qa2, qc2, ⟨held, wrt, []⟩⟩ ⟨ses, seq, rd⟩ hS (by show held.length ≤ 100000000; have := hq0.out; omega) HSO.out ⟨ht0, ht1⟩).mono ?_; rintro _ _ ⟨z2, hz1, hz2, rfl, hS⟩; generalize hgd : grantD tok' ⟨held, wrt, []⟩ ⟨ses, seq, rd⟩ = G at hS hz2 ⊢; have HG := Lib.hid hgd; clear hgd; obtain ⟨b2, ha2, hc2, qa3, qc3, s2⟩ := z2; simp only at hz1 hz2; subst hz1; subst hz2; simp only [LM.hp, List.cons_append, List.nil_append] at hS) | ((with_reducible show WAp ..); (with_reducible apply wpA_append hS 6 (z := .agg #[.int .i64 0, .int .i64 0, .int .i64 0, .int .u64 0, .int .i64 0]) (size := 5) (bytes := 40)); exact rfl; exact rfl; exact rfl; exact Try.underlying26; exact .inr Try.underlying26; kernel_rfl; exact rfl; exact (Src.freshN (m := 1) hS 0 rfl rfl (by rfl)); exact (by unfold maxLen; omega); exact (by omega); intro ao2 cap2 wx hS; (try simp only [Act.put, List.setIfInBounds_toArray, List.set_cons_zero, List.set_cons_succ])) | ((with_reducible show WLd ..); (with_reducible apply wpA_load); exact rfl; (first | ((with_reducible apply St.cellI hS); (focus repeat constructor); exact rfl) | assumption); kernel_rfl) | ((with_reducible show WSt ..); (with_reducible apply wpA_store1I hS); exact rfl; (focus repeat constructor); exact rfl; exact rfl; exact rfl; exact rfl; kernel_rfl; intro wx hS; (try simp only [Act.put, List.setIfInBounds_toArray, List.set_cons_zero, List.set_cons_succ]); (try simp only [Act.eval, Array.getD_eq_getD_getElem?, List.getElem?_toArray, List.getElem?_cons_succ, List.getElem?_cons_zero, Option.getD_some, List.set_cons_succ, List.set_cons_zero, Value.cells, List.toList_toArray] at hS)))
            go_roundw
            case rel =>
              have hst := HI.out.step (fun h => h.1 HH0.out)
              rw [HG.out] at hst
              refine ⟨rs ++ [G.1], G.2.1, ⟨b2, ha2, hc2, qa3, qc3, G.2.2⟩, ao2, cap2, by simp, rfl, hst, ?_⟩
              simp only [List.flatMap_append, List.flatMap_cons, List.flatMap_nil, List.append_nil, List.length_append, List.length_cons, List.length_nil]
              exact ((hS).sel [6, 1, 7, 2, 3, 4] 8 (by decide) (by decide) (by simp))
            case measure => simp [slen] at hlen ⊢; omega
          · go_wp2_with (first | ((with_reducible show WGd ..); (with_reducible apply wpA_guard); exact rfl; skip) | ((with_reducible show WLd ..); (with_reducible apply wpA_loadN (t := 70)); exact rfl; (first | exact HRW.out _ hS | (first | exact Hp.range hS 0 rfl _ 3 | exact Hp.range hS 1 rfl _ 3 | exact Hp.range hS 2 rfl _ 3 | exact Hp.range hS 3 rfl _ 3 | exact Hp.range hS 4 rfl _ 3 | exact Hp.range hS 5 rfl _ 3 | exact Hp.range hS 6 rfl _ 3 | exact Hp.range hS 7 rfl _ 3 | exact Hp.range hS 8 rfl _ 3 | exact Hp.range hS 9 rfl _ 3)); kernel_rfl; kernel_rfl; (try simp only [Act.put, List.setIfInBounds_toArray, List.set_cons_zero, List.set_cons_succ])) | ((first | ((with_reducible show WAl ..); (with_reducible apply wpA_alloc (t := 70) hS (v := .agg #[.int .i64 0, .int .i64 0, .bool false])); kernel_rfl; exact rfl; intro vb wx hS) | ((with_reducible show WBs ..); (with_reducible apply wpA_oneN hS (z := .agg #[.int .i64 0, .int .i64 0, .int .i64 0, .int .u64 0, .int .i64 0]) (bytes := 40) (size := 5)); exact Try.underlying26; kernel_rfl; exact rfl; exact rfl; exact rfl; exact (by decide); exact (by decide); intro _ wx hS) | ((with_reducible show WBx ..); (with_reducible apply wpA_box hS); exact rfl; exact rfl; intro _ wx hS)); (try simp only [Act.put, List.setIfInBounds_toArray, List.set_cons_zero, List.set_cons_succ]); (try simp only [Act.eval, Array.getD_eq_getD_getElem?, List.getElem?_toArray, List.getElem?_cons_succ, List.getElem?_cons_zero, Option.getD_some, List.set_cons_succ, List.set_cons_zero, Value.cells, List.toList_toArray] at hS)) | ((with_reducible show WSt ..); (with_reducible apply wpA_storeI hS); exact rfl; (focus repeat constructor); exact rfl; exact rfl; exact rfl; exact (Nat.le_of_ble_eq_true rfl); kernel_rfl; intro wx hS; (try simp only [Act.put, List.setIfInBounds_toArray, List.set_cons_zero, List.set_cons_succ]); (try simp only [Act.eval, Array.getD_eq_getD_getElem?, List.getElem?_toArray, List.getElem?_cons_succ, List.getElem?_cons_zero, Option.getD_some, List.set_cons_succ, List.set_cons_zero, Value.cells, List.toList_toArray] at hS); (try simp only [List.take_zero, List.take_succ_cons, List.nil_append, List.cons_append, List.length_cons, List.length_nil, Nat.reduceAdd, Nat.zero_add, List.drop_succ_cons, List.drop_zero, List.drop_nil, List.append_nil] at hS)) | (go_at_call 81; with_reducible refine (cloneW hS (HSRC.out _ _ _ (.inr rfl)) (by omega)).mono ?_; rintro _ _ ⟨qa2, qc2, rfl, hS⟩; ((try simp only [List.set_cons_succ, List.set_cons_zero] at hS); replace hS := hS.sel [3, 5, 6, 0, 1, 2, 4] 8 (by decide) (by decide) (by simp); simp only [List.filterMap_cons, List.filterMap_nil, List.getElem?_cons_succ, List.getElem?_cons_zero, List.drop_succ_cons, List.drop_zero, List.cons_append, List.nil_append] at hS)) | (go_at_call 33; with_reducible refine (grant_c w0 _ _ g m tok' ⟨blk', ha, hc, qa2, qc2, ⟨held, wrt, q⟩⟩ ⟨ses, seq, rd⟩ hS (by show held.length ≤ 100000000; have := hq0.out; omega) HSO.out ⟨ht0, ht1⟩).mono ?_; rintro _ _ ⟨z2, hz1, hz2, rfl, hS⟩; generalize hgd : grantD tok' ⟨held, wrt, q⟩ ⟨ses, seq, rd⟩ = G at hS hz2 ⊢; have HG := Lib.hid hgd; clear hgd; obtain ⟨b2, ha2, hc2, qa3, qc3, s2⟩ := z2; simp only at hz1 hz2; subst hz1; subst hz2; simp only [LM.hp, List.cons_append, List.nil_append] at hS) | ((with_reducible show WAp ..); (with_reducible apply wpA_append hS 6 (z := .agg #[.int .i64 0, .int .i64 0, .int .i64 0, .int .u64 0, .int .i64 0]) (size := 5) (bytes := 40)); exact rfl; exact rfl; exact rfl; exact Try.underlying26; exact .inr Try.underlying26; kernel_rfl; exact rfl; exact (Src.freshN (m := 1) hS 0 rfl rfl (by rfl)); exact (by unfold maxLen; omega); exact (by omega); intro ao2 cap2 wx hS; (try simp only [Act.put, List.setIfInBounds_toArray, List.set_cons_zero, List.set_cons_succ])) | ((with_reducible show WLd ..); (with_reducible apply wpA_load); exact rfl; (first | ((with_reducible apply St.cellI hS); (focus repeat constructor); exact rfl) | assumption); kernel_rfl) | ((with_reducible show WSt ..); (with_reducible apply wpA_store1I hS); exact rfl; (focus repeat constructor); exact rfl; exact rfl; exact rfl; exact rfl; kernel_rfl; intro wx hS; (try simp only [Act.put, List.setIfInBounds_toArray, List.set_cons_zero, List.set_cons_succ]); (try simp only [Act.eval, Array.getD_eq_getD_getElem?, List.getElem?_toArray, List.getElem?_cons_succ, List.getElem?_cons_zero, Option.getD_some, List.set_cons_succ, List.set_cons_zero, Value.cells, List.toList_toArray] at hS)))
            go_roundw
            case rel =>
              have hst := HI.out.step (fun h => h.1 HH0.out)
              rw [HG.out] at hst
              refine ⟨rs ++ [G.1], G.2.1, ⟨b2, ha2, hc2, qa3, qc3, G.2.2⟩, ao2, cap2, by simp, rfl, hst, ?_⟩
              simp only [List.flatMap_append, List.flatMap_cons, List.flatMap_nil, List.append_nil, List.length_append, List.length_cons, List.length_nil]
              exact ((hS).sel [6, 1, 7, 2, 3, 4] 8 (by decide) (by decide) (by simp))
            case measure => simp [slen] at hlen ⊢; omega
        · have hpos : 0 < held.length := List.length_pos_iff.2 hh0
          have hdec : decide (0 < held.length) = true := by simpa using hpos
          cases wrt with
          | true =>
            go_wp2_with (first | ((with_reducible show WGd ..); (with_reducible apply wpA_guard); exact rfl; skip) | ((with_reducible show WLd ..); (with_reducible apply wpA_loadN (t := 70)); exact rfl; exact HRW.out _ hS; kernel_rfl; kernel_rfl; (try simp only [Act.put, List.setIfInBounds_toArray, List.set_cons_zero, List.set_cons_succ])) | ((first | ((with_reducible show WAl ..); (with_reducible apply wpA_alloc (t := 70) hS (v := .agg #[.int .i64 0, .int .i64 0, .bool false])); kernel_rfl; exact rfl; intro vb wx hS) | ((with_reducible show WBx ..); (with_reducible apply wpA_box hS); exact rfl; exact rfl; intro _ wx hS)); (try simp only [Act.put, List.setIfInBounds_toArray, List.set_cons_zero, List.set_cons_succ]); (try simp only [Act.eval, Array.getD_eq_getD_getElem?, List.getElem?_toArray, List.getElem?_cons_succ, List.getElem?_cons_zero, Option.getD_some, List.set_cons_succ, List.set_cons_zero, Value.cells, List.toList_toArray] at hS)) | ((with_reducible show WSt ..); (with_reducible apply wpA_storeI hS); exact rfl; (focus repeat constructor); exact rfl; exact rfl; exact rfl; exact (Nat.le_of_ble_eq_true rfl); kernel_rfl; intro wx hS; (try simp only [Act.put, List.setIfInBounds_toArray, List.set_cons_zero, List.set_cons_succ]); (try simp only [Act.eval, Array.getD_eq_getD_getElem?, List.getElem?_toArray, List.getElem?_cons_succ, List.getElem?_cons_zero, Option.getD_some, List.set_cons_succ, List.set_cons_zero, Value.cells, List.toList_toArray] at hS); (try simp only [List.take_zero, List.take_succ_cons, List.nil_append, List.cons_append, List.length_cons, List.length_nil, Nat.reduceAdd, Nat.zero_add, List.drop_succ_cons, List.drop_zero, List.drop_nil, List.append_nil] at hS)) | ((with_reducible show WLd ..); (with_reducible apply wpA_load); exact rfl; (first | ((with_reducible apply St.cellI hS); (focus repeat constructor); exact rfl) | assumption); kernel_rfl) | ((with_reducible show WSt ..); (with_reducible apply wpA_store1I hS); exact rfl; (focus repeat constructor); exact rfl; exact rfl; exact rfl; exact rfl; kernel_rfl; intro wx hS; (try simp only [Act.put, List.setIfInBounds_toArray, List.set_cons_zero, List.set_cons_succ]); (try simp only [Act.eval, Array.getD_eq_getD_getElem?, List.getElem?_toArray, List.getElem?_cons_succ, List.getElem?_cons_zero, Option.getD_some, List.set_cons_succ, List.set_cons_zero, Value.cells, List.toList_toArray] at hS)))
            go_meet
            exact ⟨rs, tok', ⟨blk', ha, hc, some ⟨gq, 0, none⟩, qc, ⟨held, true, ⟨ses, seq, rd⟩ :: q⟩⟩, ao, cap, rfl, rfl, HI.out, servL_stop ⟨hh0, .inl rfl⟩, hS.tail⟩
          | false =>
            cases rd with
            | false =>
              go_wp2_with (first | ((with_reducible show WGd ..); (with_reducible apply wpA_guard); exact rfl; skip) | ((with_reducible show WLd ..); (with_reducible apply wpA_loadN (t := 70)); exact rfl; exact HRW.out _ hS; kernel_rfl; kernel_rfl; (try simp only [Act.put, List.setIfInBounds_toArray, List.set_cons_zero, List.set_cons_succ])) | ((first | ((with_reducible show WAl ..); (with_reducible apply wpA_alloc (t := 70) hS (v := .agg #[.int .i64 0, .int .i64 0, .bool false])); kernel_rfl; exact rfl; intro vb wx hS) | ((with_reducible show WBx ..); (with_reducible apply wpA_box hS); exact rfl; exact rfl; intro _ wx hS)); (try simp only [Act.put, List.setIfInBounds_toArray, List.set_cons_zero, List.set_cons_succ]); (try simp only [Act.eval, Array.getD_eq_getD_getElem?, List.getElem?_toArray, List.getElem?_cons_succ, List.getElem?_cons_zero, Option.getD_some, List.set_cons_succ, List.set_cons_zero, Value.cells, List.toList_toArray] at hS)) | ((with_reducible show WSt ..); (with_reducible apply wpA_storeI hS); exact rfl; (focus repeat constructor); exact rfl; exact rfl; exact rfl; exact (Nat.le_of_ble_eq_true rfl); kernel_rfl; intro wx hS; (try simp only [Act.put, List.setIfInBounds_toArray, List.set_cons_zero, List.set_cons_succ]); (try simp only [Act.eval, Array.getD_eq_getD_getElem?, List.getElem?_toArray, List.getElem?_cons_succ, List.getElem?_cons_zero, Option.getD_some, List.set_cons_succ, List.set_cons_zero, Value.cells, List.toList_toArray] at hS); (try simp only [List.take_zero, List.take_succ_cons, List.nil_append, List.cons_append, List.length_cons, List.length_nil, Nat.reduceAdd, Nat.zero_add, List.drop_succ_cons, List.drop_zero, List.drop_nil, List.append_nil] at hS)) | ((with_reducible show WLd ..); (with_reducible apply wpA_load); exact rfl; (first | ((with_reducible apply St.cellI hS); (focus repeat constructor); exact rfl) | assumption); kernel_rfl) | ((with_reducible show WSt ..); (with_reducible apply wpA_store1I hS); exact rfl; (focus repeat constructor); exact rfl; exact rfl; exact rfl; exact rfl; kernel_rfl; intro wx hS; (try simp only [Act.put, List.setIfInBounds_toArray, List.set_cons_zero, List.set_cons_succ]); (try simp only [Act.eval, Array.getD_eq_getD_getElem?, List.getElem?_toArray, List.getElem?_cons_succ, List.getElem?_cons_zero, Option.getD_some, List.set_cons_succ, List.set_cons_zero, Value.cells, List.toList_toArray] at hS)))
              go_meet
              exact ⟨rs, tok', ⟨blk', ha, hc, some ⟨gq, 0, none⟩, qc, ⟨held, false, ⟨ses, seq, false⟩ :: q⟩⟩, ao, cap, rfl, rfl, HI.out, servL_stop ⟨hh0, .inr rfl⟩, hS.tail⟩
            | true =>
              have HH0 := Lib.hid hh0
              clear hh0
              by_cases hqc1 : qc = 1
              · subst hqc1
                obtain rfl : q = [] := List.eq_nil_of_length_eq_zero (by omega)
                go_wp2_with (first | ((with_reducible show WGd ..); (with_reducible apply wpA_guard); exact rfl; skip) | ((with_reducible show WLd ..); (with_reducible apply wpA_loadN (t := 70)); exact rfl; (first | exact HRW.out _ hS | (first | exact Hp.range hS 0 rfl _ 3 | exact Hp.range hS 1 rfl _ 3 | exact Hp.range hS 2 rfl _ 3 | exact Hp.range hS 3 rfl _ 3 | exact Hp.range hS 4 rfl _ 3 | exact Hp.range hS 5 rfl _ 3 | exact Hp.range hS 6 rfl _ 3 | exact Hp.range hS 7 rfl _ 3 | exact Hp.range hS 8 rfl _ 3 | exact Hp.range hS 9 rfl _ 3)); kernel_rfl; kernel_rfl; (try simp only [Act.put, List.setIfInBounds_toArray, List.set_cons_zero, List.set_cons_succ])) | ((first | ((with_reducible show WAl ..); (with_reducible apply wpA_alloc (t := 70) hS (v := .agg #[.int .i64 0, .int .i64 0, .bool false])); kernel_rfl; exact rfl; intro vb wx hS) | ((with_reducible show WBs ..); (with_reducible apply wpA_oneN hS (z := .agg #[.int .i64 0, .int .i64 0, .int .i64 0, .int .u64 0, .int .i64 0]) (bytes := 40) (size := 5)); exact Try.underlying26; kernel_rfl; exact rfl; exact rfl; exact rfl; exact (by decide); exact (by decide); intro _ wx hS) | ((with_reducible show WBx ..); (with_reducible apply wpA_box hS); exact rfl; exact rfl; intro _ wx hS)); (try simp only [Act.put, List.setIfInBounds_toArray, List.set_cons_zero, List.set_cons_succ]); (try simp only [Act.eval, Array.getD_eq_getD_getElem?, List.getElem?_toArray, List.getElem?_cons_succ, List.getElem?_cons_zero, Option.getD_some, List.set_cons_succ, List.set_cons_zero, Value.cells, List.toList_toArray] at hS)) | ((with_reducible show WSt ..); (with_reducible apply wpA_storeI hS); exact rfl; (focus repeat constructor); exact rfl; exact rfl; exact rfl; exact (Nat.le_of_ble_eq_true rfl); kernel_rfl; intro wx hS; (try simp only [Act.put, List.setIfInBounds_toArray, List.set_cons_zero, List.set_cons_succ]); (try simp only [Act.eval, Array.getD_eq_getD_getElem?, List.getElem?_toArray, List.getElem?_cons_succ, List.getElem?_cons_zero, Option.getD_some, List.set_cons_succ, List.set_cons_zero, Value.cells, List.toList_toArray] at hS); (try simp only [List.take_zero, List.take_succ_cons, List.nil_append, List.cons_append, List.length_cons, List.length_nil, Nat.reduceAdd, Nat.zero_add, List.drop_succ_cons, List.drop_zero, List.drop_nil, List.append_nil] at hS)) | (go_at_call 81; with_reducible refine (cloneW hS (m := 0) (c := 0) (news := []) (fun w h => Src.slice (by simp) (by simp) (by simp)) (by omega)).mono ?_; rintro _ _ ⟨qa2, qc2, rfl, hS⟩; ((try simp only [List.set_cons_succ, List.set_cons_zero] at hS); replace hS := hS.sel [3, 5, 6, 0, 1, 2, 4] 8 (by decide) (by decide) (by simp); simp only [List.filterMap_cons, List.filterMap_nil, List.getElem?_cons_succ, List.getElem?_cons_zero, List.drop_succ_cons, List.drop_zero, List.cons_append, List.nil_append] at hS)) | (go_at_call 33; with_reducible refine (grant_c w0 _ _ g m tok' ⟨blk', ha, hc, qa2, qc2, ⟨held, false, []⟩⟩ ⟨ses, seq, true⟩ hS (by show held.length ≤ 100000000; have := hq0.out; omega) HSO.out ⟨ht0, ht1⟩).mono ?_; rintro _ _ ⟨z2, hz1, hz2, rfl, hS⟩; generalize hgd : grantD tok' ⟨held, false, []⟩ ⟨ses, seq, true⟩ = G at hS hz2 ⊢; have HG := Lib.hid hgd; clear hgd; obtain ⟨b2, ha2, hc2, qa3, qc3, s2⟩ := z2; simp only at hz1 hz2; subst hz1; subst hz2; simp only [LM.hp, List.cons_append, List.nil_append] at hS) | ((with_reducible show WAp ..); (with_reducible apply wpA_append hS 6 (z := .agg #[.int .i64 0, .int .i64 0, .int .i64 0, .int .u64 0, .int .i64 0]) (size := 5) (bytes := 40)); exact rfl; exact rfl; exact rfl; exact Try.underlying26; exact .inr Try.underlying26; kernel_rfl; exact rfl; exact (Src.freshN (m := 1) hS 0 rfl rfl (by rfl)); exact (by unfold maxLen; omega); exact (by omega); intro ao2 cap2 wx hS; (try simp only [Act.put, List.setIfInBounds_toArray, List.set_cons_zero, List.set_cons_succ])) | ((with_reducible show WLd ..); (with_reducible apply wpA_load); exact rfl; (first | ((with_reducible apply St.cellI hS); (focus repeat constructor); exact rfl) | assumption); kernel_rfl) | ((with_reducible show WSt ..); (with_reducible apply wpA_store1I hS); exact rfl; (focus repeat constructor); exact rfl; exact rfl; exact rfl; exact rfl; kernel_rfl; intro wx hS; (try simp only [Act.put, List.setIfInBounds_toArray, List.set_cons_zero, List.set_cons_succ]); (try simp only [Act.eval, Array.getD_eq_getD_getElem?, List.getElem?_toArray, List.getElem?_cons_succ, List.getElem?_cons_zero, Option.getD_some, List.set_cons_succ, List.set_cons_zero, Value.cells, List.toList_toArray] at hS)))
                go_roundw
                case rel =>
                  have hst := HI.out.step (fun h => by rcases h.2 with h | h <;> cases h)
                  rw [HG.out] at hst
                  refine ⟨rs ++ [G.1], G.2.1, ⟨b2, ha2, hc2, qa3, qc3, G.2.2⟩, ao2, cap2, by simp, rfl, hst, ?_⟩
                  simp only [List.flatMap_append, List.flatMap_cons, List.flatMap_nil, List.append_nil, List.length_append, List.length_cons, List.length_nil]
                  exact ((hS).sel [6, 1, 7, 2, 3, 4] 8 (by decide) (by decide) (by simp))
                case measure => simp [slen] at hlen ⊢; omega
              · go_wp2_with (first | ((with_reducible show WGd ..); (with_reducible apply wpA_guard); exact rfl; skip) | ((with_reducible show WLd ..); (with_reducible apply wpA_loadN (t := 70)); exact rfl; (first | exact HRW.out _ hS | (first | exact Hp.range hS 0 rfl _ 3 | exact Hp.range hS 1 rfl _ 3 | exact Hp.range hS 2 rfl _ 3 | exact Hp.range hS 3 rfl _ 3 | exact Hp.range hS 4 rfl _ 3 | exact Hp.range hS 5 rfl _ 3 | exact Hp.range hS 6 rfl _ 3 | exact Hp.range hS 7 rfl _ 3 | exact Hp.range hS 8 rfl _ 3 | exact Hp.range hS 9 rfl _ 3)); kernel_rfl; kernel_rfl; (try simp only [Act.put, List.setIfInBounds_toArray, List.set_cons_zero, List.set_cons_succ])) | ((first | ((with_reducible show WAl ..); (with_reducible apply wpA_alloc (t := 70) hS (v := .agg #[.int .i64 0, .int .i64 0, .bool false])); kernel_rfl; exact rfl; intro vb wx hS) | ((with_reducible show WBs ..); (with_reducible apply wpA_oneN hS (z := .agg #[.int .i64 0, .int .i64 0, .int .i64 0, .int .u64 0, .int .i64 0]) (bytes := 40) (size := 5)); exact Try.underlying26; kernel_rfl; exact rfl; exact rfl; exact rfl; exact (by decide); exact (by decide); intro _ wx hS) | ((with_reducible show WBx ..); (with_reducible apply wpA_box hS); exact rfl; exact rfl; intro _ wx hS)); (try simp only [Act.put, List.setIfInBounds_toArray, List.set_cons_zero, List.set_cons_succ]); (try simp only [Act.eval, Array.getD_eq_getD_getElem?, List.getElem?_toArray, List.getElem?_cons_succ, List.getElem?_cons_zero, Option.getD_some, List.set_cons_succ, List.set_cons_zero, Value.cells, List.toList_toArray] at hS)) | ((with_reducible show WSt ..); (with_reducible apply wpA_storeI hS); exact rfl; (focus repeat constructor); exact rfl; exact rfl; exact rfl; exact (Nat.le_of_ble_eq_true rfl); kernel_rfl; intro wx hS; (try simp only [Act.put, List.setIfInBounds_toArray, List.set_cons_zero, List.set_cons_succ]); (try simp only [Act.eval, Array.getD_eq_getD_getElem?, List.getElem?_toArray, List.getElem?_cons_succ, List.getElem?_cons_zero, Option.getD_some, List.set_cons_succ, List.set_cons_zero, Value.cells, List.toList_toArray] at hS); (try simp only [List.take_zero, List.take_succ_cons, List.nil_append, List.cons_append, List.length_cons, List.length_nil, Nat.reduceAdd, Nat.zero_add, List.drop_succ_cons, List.drop_zero, List.drop_nil, List.append_nil] at hS)) | (go_at_call 81; with_reducible refine (cloneW hS (HSRC.out _ _ _ (.inr rfl)) (by omega)).mono ?_; rintro _ _ ⟨qa2, qc2, rfl, hS⟩; ((try simp only [List.set_cons_succ, List.set_cons_zero] at hS); replace hS := hS.sel [3, 5, 6, 0, 1, 2, 4] 8 (by decide) (by decide) (by simp); simp only [List.filterMap_cons, List.filterMap_nil, List.getElem?_cons_succ, List.getElem?_cons_zero, List.drop_succ_cons, List.drop_zero, List.cons_append, List.nil_append] at hS)) | (go_at_call 33; with_reducible refine (grant_c w0 _ _ g m tok' ⟨blk', ha, hc, qa2, qc2, ⟨held, false, q⟩⟩ ⟨ses, seq, true⟩ hS (by show held.length ≤ 100000000; have := hq0.out; omega) HSO.out ⟨ht0, ht1⟩).mono ?_; rintro _ _ ⟨z2, hz1, hz2, rfl, hS⟩; generalize hgd : grantD tok' ⟨held, false, q⟩ ⟨ses, seq, true⟩ = G at hS hz2 ⊢; have HG := Lib.hid hgd; clear hgd; obtain ⟨b2, ha2, hc2, qa3, qc3, s2⟩ := z2; simp only at hz1 hz2; subst hz1; subst hz2; simp only [LM.hp, List.cons_append, List.nil_append] at hS) | ((with_reducible show WAp ..); (with_reducible apply wpA_append hS 6 (z := .agg #[.int .i64 0, .int .i64 0, .int .i64 0, .int .u64 0, .int .i64 0]) (size := 5) (bytes := 40)); exact rfl; exact rfl; exact rfl; exact Try.underlying26; exact .inr Try.underlying26; kernel_rfl; exact rfl; exact (Src.freshN (m := 1) hS 0 rfl rfl (by rfl)); exact (by unfold maxLen; omega); exact (by omega); intro ao2 cap2 wx hS; (try simp only [Act.put, List.setIfInBounds_toArray, List.set_cons_zero, List.set_cons_succ])) | ((with_reducible show WLd ..); (with_reducible apply wpA_load); exact rfl; (first | ((with_reducible apply St.cellI hS); (focus repeat constructor); exact rfl) | assumption); kernel_rfl) | ((with_reducible show WSt ..); (with_reducible apply wpA_store1I hS); exact rfl; (focus repeat constructor); exact rfl; exact rfl; exact rfl; exact rfl; kernel_rfl; intro wx hS; (try simp only [Act.put, List.setIfInBounds_toArray, List.set_cons_zero, List.set_cons_succ]); (try simp only [Act.eval, Array.getD_eq_getD_getElem?, List.getElem?_toArray, List.getElem?_cons_succ, List.getElem?_cons_zero, Option.getD_some, List.set_cons_succ, List.set_cons_zero, Value.cells, List.toList_toArray] at hS)))
                go_roundw
                case rel =>
                  have hst := HI.out.step (fun h => by rcases h.2 with h | h <;> cases h)
                  rw [HG.out] at hst
                  refine ⟨rs ++ [G.1], G.2.1, ⟨b2, ha2, hc2, qa3, qc3, G.2.2⟩, ao2, cap2, by simp, rfl, hst, ?_⟩
                  simp only [List.flatMap_append, List.flatMap_cons, List.flatMap_nil, List.append_nil, List.length_append, List.length_cons, List.length_nil]
                  exact ((hS).sel [6, 1, 7, 2, 3, 4] 8 (by decide) (by decide) (by simp))
                case measure => simp [slen] at hlen ⊢; omega
  case rest =>
    clear hI hlk
    obtain ⟨rs, tok', z', ao, cap, rfl, hzb, hI, hst, hS⟩ := hcut
    have hr := hI.rest
    rw [hst, List.append_nil] at hr
    obtain ⟨blk', ha, hc, qa, qc, ⟨held, wrt, queue⟩⟩ := z'
    simp only at hzb
    subst hzb
    simp only [LM.hp, List.cons_append, List.nil_append] at hS
    have HR := Lib.hid hr
    have HI := Lib.hid hI
    clear hr hI hst
    by_cases hh0 : held = []
    · have hdec : ((held.length : Int) == 0) = true := by simp [hh0]
      have hl0 : held.length = 0 := by simp [hh0]
      have HH0 := Lib.hid hh0
      have HL0 := Lib.hid hl0
      clear hh0 hl0
      go_wp2_with (first | ((with_reducible show WGd ..); (with_reducible apply wpA_guard); exact rfl; skip) | ((with_reducible show WDe ..); (with_reducible apply wpA_delete hS 2); exact rfl; exact rfl; exact rfl; exact Try.underlying66; exact Try.underlying9; exact trivial; exact (.inr ⟨i, _, HKI.out, rfl⟩); intro wx hS; (try simp only [Act.put, List.setIfInBounds_toArray, List.set_cons_zero, List.set_cons_succ])) | ((with_reducible show WLd ..); (with_reducible apply wpA_load); exact rfl; (first | ((with_reducible apply St.cellI hS); (focus repeat constructor); exact rfl) | assumption); kernel_rfl) | ((with_reducible show WSt ..); (with_reducible apply wpA_store1I hS); exact rfl; (focus repeat constructor); exact rfl; exact rfl; exact rfl; exact rfl; kernel_rfl; intro wx hS; (try simp only [Act.put, List.setIfInBounds_toArray, List.set_cons_zero, List.set_cons_succ]); (try simp only [Act.eval, Array.getD_eq_getD_getElem?, List.getElem?_toArray, List.getElem?_cons_succ, List.getElem?_cons_zero, Option.getD_some, List.set_cons_succ, List.set_cons_zero, Value.cells, List.toList_toArray] at hS)) | ((with_reducible show WBx ..); (with_reducible apply wpA_box hS); exact rfl; exact rfl; intro _ wx hS; (try simp only [Act.put, List.setIfInBounds_toArray, List.set_cons_zero, List.set_cons_succ]); (try simp only [Act.eval, Array.getD_eq_getD_getElem?, List.getElem?_toArray, List.getElem?_cons_succ, List.getElem?_cons_zero, Option.getD_some, List.set_cons_succ, List.set_cons_zero, Value.cells, List.toList_toArray] at hS)))
      go_ret
      have e2 : serveD σ nm z.s = (rs, ⟨adel σ.l nm, tok'⟩) := by rw [HF.out, HR.out]; simp only [HH0.out, if_true]
      rw [e2]
      refine ⟨_, _, rfl, ?_⟩
      have hS2 : St w0 _ (.cells g [.map (some m), .int .u64 tok'] 68 :: .mp m .string (kvs.eraseIdx i) :: .row 38 5 ao (rs).length cap ((rs).flatMap RepS.cells) :: D) := ((hS).sel [1, 2, 0] 6 (by decide) (by decide) (by simp))
      rw [← HD.out, ← HKV.out] at hS2
      exact locks_del HZ.out.1 HZ.out.2.1 (hS2.perm (.cons _ (.cons _ List.perm_middle.symm)))
    · have hdec : ((held.length : Int) == 0) = false := by simpa using hh0
      have HH0 := Lib.hid hh0
      clear hh0
      go_wp2_with (first | ((with_reducible show WGd ..); (with_reducible apply wpA_guard); exact rfl; skip) | ((with_reducible show WLd ..); (with_reducible apply wpA_load); exact rfl; (first | ((with_reducible apply St.cellI hS); (focus repeat constructor); exact rfl) | assumption); kernel_rfl) | ((with_reducible show WSt ..); (with_reducible apply wpA_store1I hS); exact rfl; (focus repeat constructor); exact rfl; exact rfl; exact rfl; exact rfl; kernel_rfl; intro wx hS; (try simp only [Act.put, List.setIfInBounds_toArray, List.set_cons_zero, List.set_cons_succ]); (try simp only [Act.eval, Array.getD_eq_getD_getElem?, List.getElem?_toArray, List.getElem?_cons_succ, List.getElem?_cons_zero, Option.getD_some, List.set_cons_succ, List.set_cons_zero, Value.cells, List.toList_toArray] at hS)) | ((with_reducible show WBx ..); (with_reducible apply wpA_box hS); exact rfl; exact rfl; intro _ wx hS; (try simp only [Act.put, List.setIfInBounds_toArray, List.set_cons_zero, List.set_cons_succ]); (try simp only [Act.eval, Array.getD_eq_getD_getElem?, List.getElem?_toArray, List.getElem?_cons_succ, List.getElem?_cons_zero, Option.getD_some, List.set_cons_succ, List.set_cons_zero, Value.cells, List.toList_toArray] at hS)))
      go_ret
      have e2 : serveD σ nm z.s = (rs, ⟨aput σ.l nm ⟨held, wrt, queue⟩, tok'⟩) := by rw [HF.out, HR.out]; simp only [HH0.out, if_false]
      rw [e2]
      refine ⟨_, _, rfl, ?_⟩
      have hS2 : St w0 _ (.cells g [.map (some m), .int .u64 tok'] 68 :: .mp m .string kvs :: .row 38 5 ao (rs).length cap ((rs).flatMap RepS.cells) :: .cells blk' [.slice ha held.length hc, .bool wrt, .slice qa queue.length qc] 75 :: .row 3 1 ha held.length hc (held.map (Value.int .i64)) :: .row 70 3 qa queue.length qc (queue.flatMap WaitS.cells) :: D) := ((hS).sel [1, 2, 0, 3, 4, 5] 6 (by decide) (by decide) (by simp))
      rw [← HD.out, ← HKV.out] at hS2
      refine locks_put (z' := ⟨blk', ha, hc, qa, qc, ⟨held, wrt, queue⟩⟩) HZ.out.1 HZ.out.2.1 HZ.out.2.2 HB.out.symm (hS2.perm (.cons _ (.cons _ ?_)))
      simp only [LM.hp, List.cons_append, List.nil_append]
      exact ((List.Perm.swap _ _ _).trans (.cons _ ((List.Perm.swap _ _ _).trans (.cons _ ((List.Perm.swap _ _ _).trans (.cons _ List.perm_middle.symm))))))
end Go.Proofs.Ytelbpnlpmaihhaa
