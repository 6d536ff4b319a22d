/-
  The locks, walked: Gone.
-/
import Derived.Test.YtelbpnlpmaihhaaLkG
import Derived.Test.YtelbpnlpmaihhaaLocksW8
namespace Go.Proofs.Ytelbpnlpmaihhaa
set_option linter.unusedVariables false
set_option linter.unusedSimpArgs false
open Go.RowKit

theorem wpA_two {P : Program} {ops : Array Oper} {rest : List Oper} {dst : Option Tmp} {ty : TypeId} {pos : String} {after : Array Edge} {a : Act} {Q : Exit → Act → World → Prop} {w0 w : World} {H : List Hp}
    {t e : TypeId} {x y : Operand} (hS : St w0 w H) {z v u : Value} {bytes : Nat} (ht : P.underlying t = some (.slice e)) (hinfo : (P.info? e).map (fun i => (i.zero, i.size, i.bytes)) = some (some z, 1, bytes)) (hx : a.eval x = v) (hv : v.cells = #[v]) (hy : a.eval y = u) (hu : u.cells = #[u])
    (hK : ∀ g w', St w0 w' (.cells g [v, u] e :: H) → wpList P ops Q rest (a.put dst (.slice (some ⟨g, 0, none⟩) 2 2)) w') : wpList P ops Q (⟨dst, .buildSlice t 2 #[(0, x), (1, y)], ty, pos, after, none⟩ :: rest) a w :=
  wpList_plain rfl fun _ h => opA_two hS ht hinfo hx hv hy hu (fun g w' h_ => h _ _ (hK g w' h_))

set_option maxRecDepth 100000 in
theorem goneclo1_c (w0 w : World) (H : List Hp) (hS : St w0 w H) (q : Nat) (gc : Nat) (s : Int) (hq : H[q]? = some (.cells gc [.int .i64 s] 3)) (x : Int) :
    Calls Try.prog 43 #[.int .i64 x, .pointer (some ⟨gc, 0, none⟩)] w fun e w' => e = .returned (.bool (x == s)) ∧ St w0 w' H := by
  go_enter Try.func43, Try.ntmps43
  go_wp2_with (first | ((with_reducible show WGd ..); (with_reducible apply wpA_guard); exact rfl; skip) | ((with_reducible show WLd ..); (with_reducible apply wpA_load); exact rfl; exact hS.cell q hq _ rfl; kernel_rfl) | ((with_reducible show WLd ..); (with_reducible apply wpA_load); exact rfl; (first | ((with_reducible apply St.cellI hS); (focus repeat constructor); exact rfl) | assumption); kernel_rfl) | ((with_reducible show WSt ..); (with_reducible apply wpA_store1I hS); exact rfl; (focus repeat constructor); exact rfl; exact rfl; exact rfl; exact rfl; kernel_rfl; intro wx hS; (try simp only [Act.put, List.setIfInBounds_toArray, List.set_cons_zero, List.set_cons_succ]); (try simp only [Act.eval, Array.getD_eq_getD_getElem?, List.getElem?_toArray, List.getElem?_cons_succ, List.getElem?_cons_zero, Option.getD_some, List.set_cons_succ, List.set_cons_zero, Value.cells, List.toList_toArray] at hS)) | ((with_reducible show WBx ..); (with_reducible apply wpA_box hS); exact rfl; exact rfl; intro _ wx hS; (try simp only [Act.put, List.setIfInBounds_toArray, List.set_cons_zero, List.set_cons_succ]); (try simp only [Act.eval, Array.getD_eq_getD_getElem?, List.getElem?_toArray, List.getElem?_cons_succ, List.getElem?_cons_zero, Option.getD_some, List.set_cons_succ, List.set_cons_zero, Value.cells, List.toList_toArray] at hS)))
  go_ret
  exact ⟨rfl, hS⟩
set_option maxRecDepth 100000 in
theorem goneclo2_c (w0 w : World) (H : List Hp) (hS : St w0 w H) (q : Nat) (gc : Nat) (s : Int) (hq : H[q]? = some (.cells gc [.int .i64 s] 3)) (x : WaitS) :
    Calls Try.prog 45 #[.agg #[.int .i64 x.session, .int .i64 x.seq, .bool x.reader], .pointer (some ⟨gc, 0, none⟩)] w fun e w' => e = .returned (.bool (x.session == s)) ∧ St w0 w' H := by
  go_enter Try.func45, Try.ntmps45
  have hq2 : ∀ X : Hp, (X :: H)[q + 1]? = some (.cells gc [.int .i64 s] 3) := fun X => by simpa using hq
  go_wp2_with (first | ((with_reducible show WGd ..); (with_reducible apply wpA_guard); exact rfl; skip) | ((with_reducible show WLd ..); (with_reducible apply wpA_load); exact rfl; exact hS.cell (q + 1) (hq2 _) _ rfl; kernel_rfl) | ((with_reducible show WLd ..); (with_reducible apply wpA_load); exact rfl; (first | ((with_reducible apply St.cellI hS); (focus repeat constructor); exact rfl) | assumption); kernel_rfl) | ((with_reducible show WSt ..); (with_reducible apply wpA_store1I hS); exact rfl; (focus repeat constructor); exact rfl; exact rfl; exact rfl; exact rfl; kernel_rfl; intro wx hS; (try simp only [Act.put, List.setIfInBounds_toArray, List.set_cons_zero, List.set_cons_succ]); (try simp only [Act.eval, Array.getD_eq_getD_getElem?, List.getElem?_toArray, List.getElem?_cons_succ, List.getElem?_cons_zero, Option.getD_some, List.set_cons_succ, List.set_cons_zero, Value.cells, List.toList_toArray] at hS)) | ((with_reducible show WBx ..); (with_reducible apply wpA_box hS); exact rfl; exact rfl; intro _ wx hS; (try simp only [Act.put, List.setIfInBounds_toArray, List.set_cons_zero, List.set_cons_succ]); (try simp only [Act.eval, Array.getD_eq_getD_getElem?, List.getElem?_toArray, List.getElem?_cons_succ, List.getElem?_cons_zero, Option.getD_some, List.set_cons_succ, List.set_cons_zero, Value.cells, List.toList_toArray] at hS)))
  go_ret
  exact ⟨rfl, hS.tail⟩

theorem mem_erase {b : Hp} {H : List Hp} {q i : Nat} (hq : H[q]? = some b) (hne : q ≠ i) : ∃ q' : Nat, (H.eraseIdx i)[q']? = some b :=
  List.getElem?_of_mem (List.mem_eraseIdx_iff_getElem?.2 ⟨q, hne, hq⟩)
/-- Elements that are s are deleted, of a row wherever it stands. -/
theorem gdelI_c {w0 w : World} {H : List Hp} (hS : St w0 w H) (i q : Nat) (hne : q ≠ i) {ha : Option Addr} {hc n gs : Nat} {held : List Int} {s : Int} (hi : H[i]? = some (.row 3 1 ha n hc (held.map (Value.int .i64)))) (hq : H[q]? = some (.cells gs [.int .i64 s] 3)) (hl : n ≤ 1000000000) :
    Calls Try.prog 38 #[.slice ha n hc, .func (.func 43) #[] #[.pointer (some ⟨gs, 0, none⟩)]] w fun e w' => e = .returned (.slice ha (held.filter fun n => !(n == s)).length hc) ∧ St w0 w' (H.set i (.row 3 1 ha (held.filter fun n => !(n == s)).length hc ((held.filter fun n => !(n == s)).map (Value.int .i64)))) := by
  obtain ⟨q', hq'⟩ := mem_erase hq hne
  refine (goneI_delete w0 w _ ha n hc (held.map (Value.int .i64)) held (fun n => n == s) ⟨gs, 0, none⟩ (hS.front i hi) (flat_map1 _ _) (by omega) ?_).mono ?_
  · intro Hs w x h
    refine goneclo1_c w0 w _ h (Hs.length + q') gs s ?_ x
    rw [List.getElem?_append_right (by omega), Nat.add_sub_cancel_left]
    exact hq'
  · rintro e w' ⟨rfl, h⟩
    refine ⟨rfl, h.perm ?_⟩
    rw [flat_map1]
    exact perm_set H i _ _ hi
theorem gdelW_c {w0 w : World} {H : List Hp} (hS : St w0 w H) (i q : Nat) (hne : q ≠ i) {qa : Option Addr} {qc n gs : Nat} {queue : List WaitS} {s : Int} (hi : H[i]? = some (.row 70 3 qa n qc (queue.flatMap WaitS.cells))) (hq : H[q]? = some (.cells gs [.int .i64 s] 3)) (hl : n ≤ 1000000000) :
    Calls Try.prog 44 #[.slice qa n qc, .func (.func 45) #[] #[.pointer (some ⟨gs, 0, none⟩)]] w fun e w' => e = .returned (.slice qa (queue.filter fun w : WaitS => !(w.session == s)).length qc) ∧ St w0 w' (H.set i (.row 70 3 qa (queue.filter fun w : WaitS => !(w.session == s)).length qc ((queue.filter fun w : WaitS => !(w.session == s)).flatMap WaitS.cells))) := by
  obtain ⟨q', hq'⟩ := mem_erase hq hne
  refine (goneW_delete w0 w _ qa n qc (queue.flatMap WaitS.cells) queue (fun w => w.session == s) ⟨gs, 0, none⟩ (hS.front i hi) rfl (by omega) ?_).mono ?_
  · intro Hs w x h
    refine goneclo2_c w0 w _ h (Hs.length + q') gs s ?_ x
    rw [List.getElem?_append_right (by omega), Nat.add_sub_cancel_left]
    exact hq'
  · rintro e w' ⟨rfl, h⟩
    exact ⟨rfl, h.perm (perm_set H i _ _ hi)⟩

theorem LocksSt.opn {w0 w : World} {g : Nat} {A R : List Hp} {σ : LocksS} (h : LocksSt w0 w g σ (A ++ R)) : ∃ D : List Hp, St w0 w (A ++ D) ∧ ∀ w' A', St w0 w' (A' ++ D) → LocksSt w0 w' g σ (A' ++ R) := opn_of_use h.use
theorem aput_self {l : List (ByteArray × LockS)} {k : ByteArray} {v : LockS} (h : aget l k = some v) : aput l k v = l := by
  obtain ⟨i, h1, h2⟩ := aget_idx h
  unfold aput
  rw [h1]
  apply List.ext_getElem?
  intro q
  by_cases hq : i = q
  · subst hq; rw [List.getElem?_set_self (List.getElem?_eq_some_iff.1 h2).1, h2]
  · rw [List.getElem?_set_ne hq]
/-- One lock open, three heaplets beside it to the front. -/
theorem locks_open3 {w0 w : World} {g : Nat} {σ : LocksS} {R : List Hp} {A B C : Hp} {nm : ByteArray} {x : LockS} (h : LocksSt w0 w g σ (A :: B :: C :: R)) (hx : aget σ.l nm = some x) :
    ∃ (m : Nat) (kvs : List (Value × Value)) (blk : Nat) (ha : Option Addr) (hc : Nat) (qa : Option Addr) (qc : Nat) (D : List Hp) (i : Nat), aidx σ.l nm = some i ∧ (∃ j : Nat, kvs[j]? = some (Value.string nm, Value.pointer (some ⟨blk, 0, none⟩))) ∧
      St w0 w (.cells g [.map (some m), .int .u64 σ.tok] 68 :: .mp m .string kvs :: .cells blk [.slice ha (x.held).length hc, .bool x.writer, .slice qa (x.queue).length qc] 75 :: .row 3 1 ha (x.held).length hc ((x.held).map (Value.int .i64)) :: .row 70 3 qa (x.queue).length qc ((x.queue).flatMap WaitS.cells) :: A :: B :: C :: D) ∧
      ∀ w' tok (x' : LockS) A' B' C', St w0 w' (.cells g [.map (some m), .int .u64 tok] 68 :: .mp m .string kvs :: .cells blk [.slice ha (x'.held).length hc, .bool x'.writer, .slice qa (x'.queue).length qc] 75 :: .row 3 1 ha (x'.held).length hc ((x'.held).map (Value.int .i64)) :: .row 70 3 qa (x'.queue).length qc ((x'.queue).flatMap WaitS.cells) :: A' :: B' :: C' :: D) → LocksSt w0 w' g ⟨aput σ.l nm x', tok⟩ (A' :: B' :: C' :: R) := by
  obtain ⟨m, Z, i, z, hZ, hi, hz, rfl, hS⟩ := locks_open h hx
  refine ⟨m, Z.map kvL, z.blk, z.ha, z.hc, z.qa, z.qc, (Z.eraseIdx i).flatMap lhp ++ R, i, hi, locks_look hz, ?_, ?_⟩
  · refine hS.perm (List.Perm.cons _ (List.Perm.cons _ (List.Perm.append_left z.hp ?_)))
    exact swapL ((Z.eraseIdx i).flatMap lhp) [A, B, C] R
  · intro w' tok x' A' B' C' h'
    refine locks_put (z := z) (z' := ⟨z.blk, z.ha, z.hc, z.qa, z.qc, x'⟩) hZ hi hz rfl (h'.perm (List.Perm.cons _ (List.Perm.cons _ (List.Perm.append_left (LM.hp ⟨z.blk, z.ha, z.hc, z.qa, z.qc, x'⟩) ?_))))
    exact swapL [A', B', C'] ((Z.eraseIdx i).flatMap lhp) R

theorem settok_c (w0 w : World) (R : List Hp) (g : Nat) (σ : LocksS) (t : Int) (h : LocksSt w0 w g σ R) : Calls Try.prog 14 #[.pointer (some ⟨g, 0, none⟩), .int .u64 t] w fun e w' => (∃ v, e = .returned v) ∧ LocksSt w0 w' g ⟨σ.l, t⟩ R := by
  obtain ⟨m, Z, hZ, hS⟩ := h
  go_enter Try.func14, Try.ntmps14
  go_wp2_with (first | ((with_reducible show WGd ..); (with_reducible apply wpA_guard); exact rfl; skip) | ((with_reducible show WLd ..); (with_reducible apply wpA_load); exact rfl; (first | ((with_reducible apply St.cellI hS); (focus repeat constructor); exact rfl) | assumption); kernel_rfl) | ((with_reducible show WSt ..); (with_reducible apply wpA_store1I hS); exact rfl; (focus repeat constructor); exact rfl; exact rfl; exact rfl; exact rfl; kernel_rfl; intro wx hS; (try simp only [Act.put, List.setIfInBounds_toArray, List.set_cons_zero, List.set_cons_succ]); (try simp only [Act.eval, Array.getD_eq_getD_getElem?, List.getElem?_toArray, List.getElem?_cons_succ, List.getElem?_cons_zero, Option.getD_some, List.set_cons_succ, List.set_cons_zero, Value.cells, List.toList_toArray] at hS)) | ((with_reducible show WBx ..); (with_reducible apply wpA_box hS); exact rfl; exact rfl; intro _ wx hS; (try simp only [Act.put, List.setIfInBounds_toArray, List.set_cons_zero, List.set_cons_succ]); (try simp only [Act.eval, Array.getD_eq_getD_getElem?, List.getElem?_toArray, List.getElem?_cons_succ, List.getElem?_cons_zero, Option.getD_some, List.set_cons_succ, List.set_cons_zero, Value.cells, List.toList_toArray] at hS)))
  (first | go_end0 | (refine bodyPost_ret (results_none rfl _ _ _) rfl ?_))
  exact ⟨⟨_, rfl⟩, m, Z, hZ, hS⟩

theorem asks_b (w0 w : World) (R : List Hp) (blk : Nat) (ha : Option Addr) (hc : Nat) (qa : Option Addr) (qc : Nat) (held : List Int) (wr : Bool) (queue : List WaitS) (s : Int)
    (hS : St w0 w (.cells blk [.slice ha (held).length hc, .bool wr, .slice qa (queue).length qc] 75 :: .row 3 1 ha (held).length hc ((held).map (Value.int .i64)) :: .row 70 3 qa (queue).length qc ((queue).flatMap WaitS.cells) :: R)) (hh : held.length ≤ 1000000000) (hq : queue.length ≤ 1000000000) {b : Bool} (hb : asksD ⟨held, wr, queue⟩ s = b) :
    Calls Try.prog 34 #[.pointer (some ⟨blk, 0, none⟩), .int .i64 s] w fun e w' => e = .returned (.bool b) ∧ St w0 w' (.cells blk [.slice ha (held).length hc, .bool wr, .slice qa (queue).length qc] 75 :: .row 3 1 ha (held).length hc ((held).map (Value.int .i64)) :: .row 70 3 qa (queue).length qc ((queue).flatMap WaitS.cells) :: R) := by
  subst hb
  exact asks_x w0 w R blk ha hc qa qc held wr queue s hS hh hq
structure GI (N : Nat) (s : Int) (res : List RepS × LocksS) (rs : List RepS) (ns : List ByteArray) (σ : LocksS) : Prop where
  li : LI N σ
  rest : res = (rs ++ (goneF s ns σ).1, (goneF s ns σ).2)
  there : ∀ k ∈ ns, ∃ x, aget σ.l k = some x
  nd : ns.Nodup

set_option maxRecDepth 100000 in
set_option maxHeartbeats 8000000 in
theorem gone_c (w0 w : World) (R : List Hp) (g : Nat) (σ : LocksS) (s : Int) (h : LocksSt w0 w g σ R) {N : Nat} (li : LI N σ) (hN : N ≤ 1000) :
    Calls Try.prog 17 #[.pointer (some ⟨g, 0, none⟩), .int .i64 s] w (RelP w0 g R (goneD σ s)) := by
  have hl : σ.l.length ≤ 1000 := li.ok.len
  obtain ⟨res, hres⟩ : ∃ res, goneD σ s = res := ⟨_, rfl⟩
  obtain ⟨ns, hns⟩ : ∃ ns, srtB (σ.l.map (·.1)) = ns := ⟨_, rfl⟩
  have hrl : res.1.length ≤ 1000000 := by
    have h1 := (gone_facts li s).2.2
    rw [hres] at h1
    have : 1000 * N ≤ 1000 * 1000 := Nat.mul_le_mul_left _ hN
    omega
  have hnl : ns.length = σ.l.length := by rw [← hns, (srtB_self _).length_eq, List.length_map]
  have hI : GI N s res [] ns σ := by
    refine ⟨li, ?_, fun k hk => ?_, ?_⟩
    · rw [← hres, ← hns]; rfl
    · rw [← hns] at hk
      obtain ⟨y, hy, rfl⟩ := List.mem_map.1 ((srtB_self _).mem_iff.1 hk)
      cases hg : aget σ.l y.1 with
      | some x => exact ⟨x, rfl⟩
      | none => exact absurd rfl (aidx_none (aget_none_idx hg) y hy)
    · rw [← hns]; exact (srtB_self _).nodup_iff.2 li.nd
  have hnc := fun w R h => names_c w0 w R g σ h (by omega)
  rw [hns, ← hnl] at hnc
  rw [hres]
  have hnb : ns.length ≤ 1000 := by omega
  have HI := Lib.hid hI
  have HNC := Lib.hid hnc
  have hmf : ∀ (fn : Fn) (first cap : Array Value) (w : World), (Instr.makeFunc fn first cap).run Try.prog w = .ok (.func fn first cap) w := fun _ _ _ _ => rfl
  obtain ⟨D_, hS, hfin⟩ := LocksSt.opn (A := []) h
  simp only [List.nil_append] at hS
  have HF := Lib.hid hfin
  clear hres hns hnl hI hnc li hl h hfin
  go_enter Try.func17, Try.ntmps17
  go_upto_block 0 with (first | ((with_reducible show WGd ..); (with_reducible apply wpA_guard); exact rfl; skip) | ((first | ((with_reducible show WBx ..); (with_reducible apply wpA_box hS); exact rfl; exact rfl; intro gs wx hS) | ((with_reducible show WBx ..); (with_reducible apply wpA_box hS); exact rfl; exact rfl; intro _ wx hS)); (try simp only [Act.put, List.setIfInBounds_toArray, List.set_cons_zero, List.set_cons_succ]); (try simp only [Act.eval, Array.getD_eq_getD_getElem?, List.getElem?_toArray, List.getElem?_cons_succ, List.getElem?_cons_zero, Option.getD_some, List.set_cons_succ, List.set_cons_zero, Value.cells, List.toList_toArray] at hS)) | (go_at_call 42; have hL := HF.out _ [_] hS; clear hS HF; (with_reducible refine (HNC.out _ _ hL).mono ?_); rintro _ _ ⟨an, cn, rfl, hL⟩; (obtain ⟨D_, hS, hfin⟩ := LocksSt.opn (A := [_, _]) hL); have HF := Lib.hid hfin; clear hfin hL; (try simp only [List.cons_append, List.nil_append] at hS)) | ((with_reducible show WLd ..); (with_reducible apply wpA_load); exact rfl; (first | ((with_reducible apply St.cellI hS); (focus repeat constructor); exact rfl) | assumption); kernel_rfl) | ((with_reducible show WSt ..); (with_reducible apply wpA_store1I hS); exact rfl; (focus repeat constructor); exact rfl; exact rfl; exact rfl; exact rfl; kernel_rfl; intro wx hS; (try simp only [Act.put, List.setIfInBounds_toArray, List.set_cons_zero, List.set_cons_succ]); (try simp only [Act.eval, Array.getD_eq_getD_getElem?, List.getElem?_toArray, List.getElem?_cons_succ, List.getElem?_cons_zero, Option.getD_some, List.set_cons_succ, List.set_cons_zero, Value.cells, List.toList_toArray] at hS)))
  have hL := HF.out _ [_, _, _] ((hS.nilRow 38 5).sel [1, 2, 0] 3 (by decide) (by decide) (by simp))
  clear hS HF
  simp only [List.cons_append, List.nil_append, List.filterMap_cons, List.filterMap_nil, List.getElem?_cons_succ, List.getElem?_cons_zero] at hL
  go_cut [5] (fun v5 wr => ∃ (ao : Option Addr) (cap : Nat), v5 = .slice ao res.1.length cap ∧ LocksSt w0 wr g res.2 (.row 38 5 ao (res.1).length cap ((res.1).flatMap RepS.cells) :: R))
  case first =>
    go_wp2_with (first | ((with_reducible show WGd ..); (with_reducible apply wpA_guard); exact rfl; skip) | ((with_reducible show WLd ..); (with_reducible apply wpA_load); exact rfl; (first | ((with_reducible apply St.cellI hS); (focus repeat constructor); exact rfl) | assumption); kernel_rfl) | ((with_reducible show WSt ..); (with_reducible apply wpA_store1I hS); exact rfl; (focus repeat constructor); exact rfl; exact rfl; exact rfl; exact rfl; kernel_rfl; intro wx hS; (try simp only [Act.put, List.setIfInBounds_toArray, List.set_cons_zero, List.set_cons_succ]); (try simp only [Act.eval, Array.getD_eq_getD_getElem?, List.getElem?_toArray, List.getElem?_cons_succ, List.getElem?_cons_zero, Option.getD_some, List.set_cons_succ, List.set_cons_zero, Value.cells, List.toList_toArray] at hS)) | ((with_reducible show WBx ..); (with_reducible apply wpA_box hS); exact rfl; exact rfl; intro _ wx hS; (try simp only [Act.put, List.setIfInBounds_toArray, List.set_cons_zero, List.set_cons_succ]); (try simp only [Act.eval, Array.getD_eq_getD_getElem?, List.getElem?_toArray, List.getElem?_cons_succ, List.getElem?_cons_zero, Option.getD_some, List.set_cons_succ, List.set_cons_zero, Value.cells, List.toList_toArray] at hS)))
    go_loopw [5, 14] (fun v5 v14 wr => ∃ (k : Nat) (rs : List RepS) (σk : LocksS) (ao : Option Addr) (cap : Nat), k ≤ ns.length ∧ v14 = .int .i64 k ∧ v5 = .slice ao rs.length cap ∧ Hid (GI N s res rs (ns.drop k) σk) ∧ LocksSt w0 wr g σk (.row 9 1 an ns.length cn (ns.map Value.string) :: .cells gs [.int .i64 s] 3 :: .row 38 5 ao (rs).length cap ((rs).flatMap RepS.cells) :: R)) (fun _ v14 _ => ns.length - (intOf v14).toNat)
    case atStart => exact ⟨0, [], σ, none, 0, Nat.zero_le _, rfl, rfl, HI, hL⟩
    case round =>
      clear hL HI
      obtain ⟨k, rs, σk, ao, cap, hk, rfl, rfl, HI, hL⟩ := hrel
      by_cases hlt : k < ns.length
      · obtain ⟨y, hy⟩ : ∃ y, ns[k]? = some y := ⟨_, List.getElem?_eq_getElem hlt⟩
        have hdr : ns.drop k = y :: ns.drop (k + 1) := by rw [List.drop_eq_getElem_cons hlt, (List.getElem?_eq_some_iff.1 hy).2]
        rw [hdr] at HI
        obtain ⟨x, hx⟩ := HI.out.there y List.mem_cons_self
        have hxo := HI.out.li.ok.each _ (aget_mem hx)
        obtain ⟨m, kvs, blk, ha, hc, qa, qc, D, i, hi, hlk, hS, hback⟩ := locks_open3 hL hx
        rcases row_head (hS.at_ 5 rfl) with ⟨_, hh, _⟩ | ⟨⟨gn, rfl⟩, _⟩
        · omega
        have HY : Hid ((ns.map Value.string)[k]? = some (.string y)) := Lib.hid (by rw [List.getElem?_map, hy]; rfl)
        have HB := Lib.hid hback
        have HX := Lib.hid (And.intro hx hi)
        have hrs : rs.length ≤ 1000000000 := by
          have := congrArg (fun q => q.1.length) HI.out.rest
          simp only [List.length_append] at this
          omega
        obtain ⟨held, wr, queue⟩ := x
        simp only at hS hxo HB
        have hh : held.length ≤ 1000000000 := by omega
        have hq : queue.length ≤ 1000000000 := by omega
        have HXO := Lib.hid hxo
        clear hback hL hy hx hdr hi hxo
        cases hask : asksD ⟨held, wr, queue⟩ s with
        | false =>
          have HAS := Lib.hid hask
          have HI2 : Hid (GI N s res rs (ns.drop (k + 1)) σk) := Lib.hid (by
            refine ⟨HI.out.li, ?_, fun k' hk' => HI.out.there k' (List.mem_cons_of_mem _ hk'), (List.nodup_cons.1 HI.out.nd).2⟩
            have := HI.out.rest
            rw [goneF, HX.out.1] at this
            simp only [HAS.out] at this
            exact this)
          clear hask
          go_wp2_with (first | ((with_reducible show WGd ..); (with_reducible apply wpA_guard); exact rfl; skip) | ((with_reducible show WLd ..); (with_reducible apply wpA_load); exact rfl; exact row_cell (hS.at_ 5 rfl) k HY.out; kernel_rfl) | ((with_reducible apply wpA_lookup hS 1 (z := .pointer none) (r := some (.pointer (some ⟨blk, 0, none⟩)))); exact rfl; exact rfl; exact rfl; exact Try.underlying66; exact Try.underlying9; exact trivial; kernel_rfl; exact hlk; dsimp only [Option.getD, Option.isSome, if_true, Bool.false_eq_true, if_false]) | (go_at_call 34; ((try simp only [List.set_cons_succ, List.set_cons_zero] at hS); replace hS := hS.sel [2, 3, 4, 0, 1, 5, 6, 7] 8 (by decide) (by decide) (by simp); simp only [List.filterMap_cons, List.filterMap_nil, List.getElem?_cons_succ, List.getElem?_cons_zero, List.drop_succ_cons, List.drop_zero, List.cons_append, List.nil_append] at hS); with_reducible refine (asks_b w0 _ _ blk ha hc qa qc held wr queue s hS hh hq HAS.out).mono ?_; rintro _ _ ⟨rfl, hS⟩; ((try simp only [List.set_cons_succ, List.set_cons_zero] at hS); replace hS := hS.sel [3, 4, 0, 1, 2, 5, 6, 7] 8 (by decide) (by decide) (by simp); simp only [List.filterMap_cons, List.filterMap_nil, List.getElem?_cons_succ, List.getElem?_cons_zero, List.drop_succ_cons, List.drop_zero, List.cons_append, List.nil_append] at hS)) | ((with_reducible show WLd ..); (with_reducible apply wpA_load); exact rfl; (first | ((with_reducible apply St.cellI hS); (focus repeat constructor); exact rfl) | assumption); kernel_rfl) | ((with_reducible show WSt ..); (with_reducible apply wpA_store1I hS); exact rfl; (focus repeat constructor); exact rfl; exact rfl; exact rfl; exact rfl; kernel_rfl; intro wx hS; (try simp only [Act.put, List.setIfInBounds_toArray, List.set_cons_zero, List.set_cons_succ]); (try simp only [Act.eval, Array.getD_eq_getD_getElem?, List.getElem?_toArray, List.getElem?_cons_succ, List.getElem?_cons_zero, Option.getD_some, List.set_cons_succ, List.set_cons_zero, Value.cells, List.toList_toArray] at hS)) | ((with_reducible show WBx ..); (with_reducible apply wpA_box hS); exact rfl; exact rfl; intro _ wx hS; (try simp only [Act.put, List.setIfInBounds_toArray, List.set_cons_zero, List.set_cons_succ]); (try simp only [Act.eval, Array.getD_eq_getD_getElem?, List.getElem?_toArray, List.getElem?_cons_succ, List.getElem?_cons_zero, Option.getD_some, List.set_cons_succ, List.set_cons_zero, Value.cells, List.toList_toArray] at hS)))
          have hL := HB.out _ σk.tok ⟨held, wr, queue⟩ _ _ _ hS
          rw [aput_self HX.out.1] at hL
          clear hS HB HI
          go_roundw
          case rel => exact ⟨k + 1, rs, σk, ao, cap, by omega, by go_num, rfl, HI2, hL⟩
          case measure => simp [intOf]; omega
        | true =>
          have HAS := Lib.hid hask
          obtain ⟨S, hS0⟩ : ∃ S, serveD σk y (goneX s ⟨held, wr, queue⟩) = S := ⟨_, rfl⟩
          obtain ⟨x1, x2⟩ := goneX_facts HI.out.li HX.out.1 s
          obtain ⟨g1, g2, g3, g4⟩ := serve_facts HI.out.li HX.out.1 x1 x2
          have hsv := fun w R h => serve_c w0 w R g ⟨aput σk.l y (goneX s ⟨held, wr, queue⟩), σk.tok⟩ y (goneX s ⟨held, wr, queue⟩) h (aget_put_same _ _ _) x1 (by omega) ⟨HI.out.li.ok.t0, HI.out.li.ok.t1⟩
          rw [serveD_aput σk y _ _ HX.out.2, hS0] at hsv
          rw [hS0] at g1 g2 g3 g4
          have hrest := HI.out.rest
          rw [goneF, HX.out.1] at hrest
          simp only [HAS.out, if_true, hS0] at hrest
          have hss : S.1.length ≤ 1000000000 := by
            have := congrArg (fun q => q.1.length) hrest
            simp only [List.length_append] at this
            omega
          have HI2 : Hid (GI N s res (rs ++ S.1) (ns.drop (k + 1)) S.2) := Lib.hid (by
            refine ⟨g1, ?_, fun k' hk' => ?_, (List.nodup_cons.1 HI.out.nd).2⟩
            · rw [List.append_assoc]; exact hrest
            · rw [g4 k' (fun e => (List.nodup_cons.1 HI.out.nd).1 (e ▸ hk'))]
              exact HI.out.there k' (List.mem_cons_of_mem _ hk'))
          have HSV := Lib.hid hsv
          simp only [goneX] at HSV
          clear hask x1 x2 g1 g2 g3 g4 hsv hrest hS0
          go_wp2_with (first | ((with_reducible show WGd ..); (with_reducible apply wpA_guard); exact rfl; skip) | ((with_reducible show WLd ..); (with_reducible apply wpA_load); exact rfl; exact row_cell (hS.at_ 5 rfl) k HY.out; kernel_rfl) | ((with_reducible apply wpA_lookup hS 1 (z := .pointer none) (r := some (.pointer (some ⟨blk, 0, none⟩)))); exact rfl; exact rfl; exact rfl; exact Try.underlying66; exact Try.underlying9; exact trivial; kernel_rfl; exact hlk; dsimp only [Option.getD, Option.isSome, if_true, Bool.false_eq_true, if_false]) | (go_at_call 34; ((try simp only [List.set_cons_succ, List.set_cons_zero] at hS); replace hS := hS.sel [2, 3, 4, 0, 1, 5, 6, 7] 8 (by decide) (by decide) (by simp); simp only [List.filterMap_cons, List.filterMap_nil, List.getElem?_cons_succ, List.getElem?_cons_zero, List.drop_succ_cons, List.drop_zero, List.cons_append, List.nil_append] at hS); with_reducible refine (asks_b w0 _ _ blk ha hc qa qc held wr queue s hS hh hq HAS.out).mono ?_; rintro _ _ ⟨rfl, hS⟩; ((try simp only [List.set_cons_succ, List.set_cons_zero] at hS); replace hS := hS.sel [3, 4, 0, 1, 2, 5, 6, 7] 8 (by decide) (by decide) (by simp); simp only [List.filterMap_cons, List.filterMap_nil, List.getElem?_cons_succ, List.getElem?_cons_zero, List.drop_succ_cons, List.drop_zero, List.cons_append, List.nil_append] at hS)) | (go_at_call 38; with_reducible refine (gdelI_c hS 3 6 (by decide) rfl rfl hh).mono ?_; rintro _ _ ⟨rfl, hS⟩; (try simp only [List.set_cons_succ, List.set_cons_zero] at hS)) | (go_at_call 44; with_reducible refine (gdelW_c hS 4 6 (by decide) rfl rfl hq).mono ?_; rintro _ _ ⟨rfl, hS⟩; (try simp only [List.set_cons_succ, List.set_cons_zero] at hS)) | (go_at_call 41; have hL := HB.out _ σk.tok ⟨(held.filter fun n => !(n == s)), wr, (queue.filter fun w : WaitS => !(w.session == s))⟩ _ _ _ hS; clear hS HB; (with_reducible refine (HSV.out _ _ hL).mono ?_); rintro _ _ ⟨a2, c2, rfl, hL⟩; (obtain ⟨D_, hS, hfin⟩ := LocksSt.opn (A := [_, _, _, _]) hL); have HF := Lib.hid hfin; clear hfin hL; (try simp only [List.cons_append, List.nil_append] at hS)) | ((first | ((with_reducible show WBs ..); (with_reducible apply wpA_two hS (z := .slice none 0 0) (bytes := 24)); exact Try.underlying127; kernel_rfl; exact rfl; exact rfl; exact rfl; exact rfl; intro gl wx hS) | ((with_reducible show WBx ..); (with_reducible apply wpA_box hS); exact rfl; exact rfl; intro _ wx hS)); (try simp only [Act.put, List.setIfInBounds_toArray, List.set_cons_zero, List.set_cons_succ]); (try simp only [Act.eval, Array.getD_eq_getD_getElem?, List.getElem?_toArray, List.getElem?_cons_succ, List.getElem?_cons_zero, Option.getD_some, List.set_cons_succ, List.set_cons_zero, Value.cells, List.toList_toArray] at hS)) | (go_at_call 40; ((try simp only [List.set_cons_succ, List.set_cons_zero] at hS); replace hS := hS.sel [0, 4, 1, 2, 3] 5 (by decide) (by decide) (by simp); simp only [List.filterMap_cons, List.filterMap_nil, List.getElem?_cons_succ, List.getElem?_cons_zero, List.drop_succ_cons, List.drop_zero, List.cons_append, List.nil_append] at hS); with_reducible refine (join_c w0 _ _ gl ao a2 cap c2 rs S.1 hS hrs hss).mono ?_; rintro _ _ ⟨a3, c3, rfl, hS⟩; skip) | ((with_reducible show WLd ..); (with_reducible apply wpA_load); exact rfl; (first | ((with_reducible apply St.cellI hS); (focus repeat constructor); exact rfl) | assumption); kernel_rfl) | ((with_reducible show WSt ..); (with_reducible apply wpA_store1I hS); exact rfl; (focus repeat constructor); exact rfl; exact rfl; exact rfl; exact rfl; kernel_rfl; intro wx hS; (try simp only [Act.put, List.setIfInBounds_toArray, List.set_cons_zero, List.set_cons_succ]); (try simp only [Act.eval, Array.getD_eq_getD_getElem?, List.getElem?_toArray, List.getElem?_cons_succ, List.getElem?_cons_zero, Option.getD_some, List.set_cons_succ, List.set_cons_zero, Value.cells, List.toList_toArray] at hS)))
          ((try simp only [List.set_cons_succ, List.set_cons_zero] at hS); replace hS := hS.sel [1, 2, 0] 3 (by decide) (by decide) (by simp); simp only [List.filterMap_cons, List.filterMap_nil, List.getElem?_cons_succ, List.getElem?_cons_zero, List.drop_succ_cons, List.drop_zero, List.cons_append, List.nil_append] at hS)
          have hL := HF.out _ [_, _, _] hS
          clear hS HF HI
          go_roundw
          case rel => exact ⟨k + 1, rs ++ S.1, S.2, a3, c3, by omega, by go_num, by rw [List.length_append], HI2, hL⟩
          case measure => simp [intOf]; omega
      · obtain rfl : k = ns.length := by omega
        go_wp2_with (first | ((with_reducible show WGd ..); (with_reducible apply wpA_guard); exact rfl; skip) | ((with_reducible show WLd ..); (with_reducible apply wpA_load); exact rfl; (first | ((with_reducible apply St.cellI hS); (focus repeat constructor); exact rfl) | assumption); kernel_rfl) | ((with_reducible show WSt ..); (with_reducible apply wpA_store1I hS); exact rfl; (focus repeat constructor); exact rfl; exact rfl; exact rfl; exact rfl; kernel_rfl; intro wx hS; (try simp only [Act.put, List.setIfInBounds_toArray, List.set_cons_zero, List.set_cons_succ]); (try simp only [Act.eval, Array.getD_eq_getD_getElem?, List.getElem?_toArray, List.getElem?_cons_succ, List.getElem?_cons_zero, Option.getD_some, List.set_cons_succ, List.set_cons_zero, Value.cells, List.toList_toArray] at hS)) | ((with_reducible show WBx ..); (with_reducible apply wpA_box hS); exact rfl; exact rfl; intro _ wx hS; (try simp only [Act.put, List.setIfInBounds_toArray, List.set_cons_zero, List.set_cons_succ]); (try simp only [Act.eval, Array.getD_eq_getD_getElem?, List.getElem?_toArray, List.getElem?_cons_succ, List.getElem?_cons_zero, Option.getD_some, List.set_cons_succ, List.set_cons_zero, Value.cells, List.toList_toArray] at hS)))
        go_meet
        have hr := HI.out.rest
        rw [List.drop_length, goneF, List.append_nil] at hr
        subst hr
        exact ⟨ao, cap, rfl, hL.sub (.cons _ (.cons _ (List.Sublist.refl _)))⟩
  case rest =>
    clear hL
    obtain ⟨ao, cap, rfl, hL⟩ := hcut
    go_wp2_with (first | ((with_reducible show WGd ..); (with_reducible apply wpA_guard); exact rfl; skip) | ((with_reducible show WLd ..); (with_reducible apply wpA_load); exact rfl; (first | ((with_reducible apply St.cellI hS); (focus repeat constructor); exact rfl) | assumption); kernel_rfl) | ((with_reducible show WSt ..); (with_reducible apply wpA_store1I hS); exact rfl; (focus repeat constructor); exact rfl; exact rfl; exact rfl; exact rfl; kernel_rfl; intro wx hS; (try simp only [Act.put, List.setIfInBounds_toArray, List.set_cons_zero, List.set_cons_succ]); (try simp only [Act.eval, Array.getD_eq_getD_getElem?, List.getElem?_toArray, List.getElem?_cons_succ, List.getElem?_cons_zero, Option.getD_some, List.set_cons_succ, List.set_cons_zero, Value.cells, List.toList_toArray] at hS)) | ((with_reducible show WBx ..); (with_reducible apply wpA_box hS); exact rfl; exact rfl; intro _ wx hS; (try simp only [Act.put, List.setIfInBounds_toArray, List.set_cons_zero, List.set_cons_succ]); (try simp only [Act.eval, Array.getD_eq_getD_getElem?, List.getElem?_toArray, List.getElem?_cons_succ, List.getElem?_cons_zero, Option.getD_some, List.set_cons_succ, List.set_cons_zero, Value.cells, List.toList_toArray] at hS)))
    go_ret
    exact ⟨ao, cap, rfl, hL⟩
end Go.Proofs.Ytelbpnlpmaihhaa
