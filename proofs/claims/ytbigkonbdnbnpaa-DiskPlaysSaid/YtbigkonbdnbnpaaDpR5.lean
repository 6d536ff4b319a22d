/-
  The reference's disk: Append, walked.
-/
import Derived.Test.YtbigkonbdnbnpaaDpR4
namespace Go.Proofs.Ytbigkonbdnbnpaa
set_option linter.unusedVariables false
set_option linter.unusedSimpArgs false
open Go.RowKit

theorem exec_index_str {P : Program} {w : World} {ρ : Operand → Value} {t : TypeId} {x y : Operand} {dst : Option Tmp} {ty : TypeId} {pos : String} {after : Array Edge} {gd : Option (Nat × Bool)} {s : ByteArray} {k : Nat} {b : UInt8}
    (ht : P.underlying t = some .string) (hx : ρ x = .string s) (hy : ρ y = .int .i64 k) (hb : s[k]? = some b) :
    (execOp ρ ⟨dst, .index t x y, ty, pos, after, gd⟩).run P w = .ok (.value (.int .u8 b.toNat)) w := by
  have hr := congrFun (congrArg (Sem.run P) (rfl : Instr.index t (.string s) (.int .i64 k) = Instr.index t (.string s) (.int .i64 k))) w
  have h1 : (Instr.index t (.string s) (.int .i64 k)).run P w = .ok (.int .u8 b.toNat) w := by
    simp [Instr.index, asIntOf, run_underlying ht, Result.andThen, hb]
  simp [execOp, hx, hy, h1, Result.andThen]
theorem newB_length (clk : Int) (t : ByteArray) : (newB clk t).length = t.size := by
  unfold newB
  rw [List.length_zip, clocks_length, data_len, Nat.min_self]
theorem newB_get (clk : Int) {t : ByteArray} {k : Nat} (h : k < t.size) : ∃ tb : UInt8, t[k]? = some tb ∧ (newB clk t)[k]? = some (tb, clk + k + 1) := by
  refine ⟨t[k], by simp [h], ?_⟩
  unfold newB clocks
  rw [List.getElem?_zip_eq_some]
  constructor
  · show t.data.toList[k]? = _
    rw [Array.getElem?_toList]
    exact Array.getElem?_eq_getElem h
  · simp [h]

theorem St.asB {w0 w : World} {A B : Hp} {E : List Hp} {ia : Option Addr} {ic : Nat} {b : List BR} (h : St w0 w (A :: B :: .row 79 2 none 0 0 [] :: E)) (hb : b = []) (hia : ia = none) (hic : ic = 0) : St w0 w (A :: B :: brow ia ic b :: E) := by
  subst hb hia hic
  exact h
section
variable {w0 w : World} {x : Nat} {R : List Hp} {ρ : RefD}
set_option maxRecDepth 100000 in
set_option maxHeartbeats 8000000 in
theorem rappend_c (h : RefDSt w0 w x ρ R) (ok : ρ.ok) (s t : ByteArray) (hs : s.size ≤ 1000000000000000) (ht : t.size ≤ 1000) :
    Calls Try.prog 24 #[.pointer (some ⟨x, 0, none⟩), .string s, .string t] w fun e w' => e = .returned (.int .i64 (appendR ρ s t).2) ∧ RefDSt w0 w' x (appendR ρ s t).1 R := by
  unfold appendR
  have hc := fun w => rname_c s w hs
  have hc0 := ok.c0
  have hc1 := ok.c1
  cases hn : nameC s with
  | false =>
    rw [if_pos rfl]
    rw [hn] at hc
    obtain ⟨a, c, L, hL, hS⟩ := h
    have HL := Lib.hid hL
    clear hL ok hn
    go_enter Try.func24, Try.ntmps24
    go_wp2_with (first | ((with_reducible show WGd ..); (with_reducible apply wpA_guard); exact rfl; skip) | (go_at_call 39; with_reducible refine (hc _).mono ?_; rintro _ _ ⟨rfl, rfl⟩) | ((with_reducible show WLd ..); (with_reducible apply wpA_load); exact rfl; (first | ((with_reducible apply St.cellI hS); (focus repeat constructor); exact rfl) | assumption); kernel_rfl) | ((with_reducible show WSt ..); (with_reducible apply wpA_store1I hS); exact rfl; (focus repeat constructor); exact rfl; exact rfl; exact rfl; exact rfl; kernel_rfl; intro wx hS; (try simp only [Act.put, List.setIfInBounds_toArray, List.set_cons_zero, List.set_cons_succ]); (try simp only [Act.eval, Array.getD_eq_getD_getElem?, List.getElem?_toArray, List.getElem?_cons_succ, List.getElem?_cons_zero, Option.getD_some, List.set_cons_succ, List.set_cons_zero, Value.cells, List.toList_toArray] at hS)) | ((with_reducible show WBx ..); (with_reducible apply wpA_box hS); exact rfl; exact rfl; intro _ wx hS; (try simp only [Act.put, List.setIfInBounds_toArray, List.set_cons_zero, List.set_cons_succ]); (try simp only [Act.eval, Array.getD_eq_getD_getElem?, List.getElem?_toArray, List.getElem?_cons_succ, List.getElem?_cons_zero, Option.getD_some, List.set_cons_succ, List.set_cons_zero, Value.cells, List.toList_toArray] at hS)))
    go_ret
    exact ⟨rfl, a, c, L, HL.out, hS⟩
  | true =>
    rw [if_neg (by simp)]
    rw [hn] at hc
    clear hn
    cases hr : rat ρ s with
    | none =>
      simp only []
      rw [if_pos (by omega)]
      obtain ⟨a, c, L, hL, hS⟩ := h
      have hl : L.length ≤ 1000000 := by rw [len_of hL]; exact ok.len
      have hf := fnd_of_none hL hr
      obtain ⟨p, hp⟩ : ∃ p, (L.takeWhile (fun z => ltB z.nm s)).length = p := ⟨_, rfl⟩
      have hfi : fnd (insL L s) s = (p : Nat) := by rw [fnd_ins, hp]
      have hget := insL_get L s
      rw [hp] at hget
      have hLn : (insL L s).length ≤ 1000001 := by rw [insL_len]; omega
      have hdp : decide ((p : Int) < 0) = false := by simp
      have hset : ∀ z, (insL L s).set p z = L.takeWhile (fun z => ltB z.nm s) ++ z :: L.dropWhile (fun z => ltB z.nm s) := fun z => by rw [← hp]; exact insL_set L s z
      have hD0 : (((insL L s).eraseIdx p).flatMap fhp ++ R).Perm (L.flatMap fhp ++ R) := by
        refine List.Perm.append_right R (List.Perm.flatMap_right fhp ?_)
        have h1 : (⟨s, none, 0, []⟩ :: (insL L s).eraseIdx p : List FileR).Perm (⟨s, none, 0, []⟩ :: L) := by
          refine (perm_front _ p _ hget).trans ?_
          unfold insL
          refine List.perm_middle.trans ?_
          rw [List.takeWhile_append_dropWhile]
        exact h1.cons_inv
      obtain ⟨M, hM⟩ : ∃ M, insL L s = M := ⟨_, rfl⟩
      obtain ⟨E, hE⟩ : ∃ E, L.flatMap fhp ++ R = E := ⟨_, rfl⟩
      rw [hE] at hS
      have hmk : ∀ w, St w0 w (rdc x a L.length c ρ.clock :: frow a c L :: E) → Calls Try.prog 41 #[.pointer (some ⟨x, 0, none⟩), .string s] w fun e w' => (∃ v, e = .returned v) ∧ ∃ a' c', St w0 w' (rdc x a' M.length c' ρ.clock :: frow a' c' M :: E) := fun w h => by rw [← hM]; exact rmake_s h s (by omega)
      rw [hM] at hfi hget hLn hset hD0
      have HMK := Lib.hid hmk
      have HZ := Lib.hid hget
      have HS := Lib.hid (And.intro hL (And.intro hset (And.intro hM (And.intro hp (And.intro hD0 hE)))))
      have hi : p < M.length := (List.getElem?_eq_some_iff.1 hget).1
      obtain ⟨l, clk⟩ := ρ
      simp only at hS hL hc0 hc1 HMK HS ⊢
      clear hmk hget hset hM hp hD0 hL ok hr hE
      go_enter Try.func24, Try.ntmps24
      go_upto_block 0 with (first | ((with_reducible show WGd ..); (with_reducible apply wpA_guard); exact rfl; skip) | (go_at_call 39; with_reducible refine (hc _).mono ?_; rintro _ _ ⟨rfl, rfl⟩) | (go_at_call 40; with_reducible refine (rfind_e hS s (by omega) hf).mono ?_; rintro _ _ ⟨rfl, hS⟩) | (go_at_call 41; with_reducible refine (HMK.out _ hS).mono ?_; rintro _ _ ⟨⟨_, rfl⟩, a1, c1, hS⟩) | (go_at_call 40; with_reducible refine (rfind_e hS s (by omega) hfi).mono ?_; rintro _ _ ⟨rfl, hS⟩) | ((with_reducible show WLd ..); (with_reducible apply wpA_load); exact rfl; (first | ((with_reducible apply St.cellI hS); (focus repeat constructor); exact rfl) | assumption); kernel_rfl) | ((with_reducible show WSt ..); (with_reducible apply wpA_store1I hS); exact rfl; (focus repeat constructor); exact rfl; exact rfl; exact rfl; exact rfl; kernel_rfl; intro wx hS; (try simp only [Act.put, List.setIfInBounds_toArray, List.set_cons_zero, List.set_cons_succ]); (try simp only [Act.eval, Array.getD_eq_getD_getElem?, List.getElem?_toArray, List.getElem?_cons_succ, List.getElem?_cons_zero, Option.getD_some, List.set_cons_succ, List.set_cons_zero, Value.cells, List.toList_toArray] at hS)) | ((with_reducible show WBx ..); (with_reducible apply wpA_box hS); exact rfl; exact rfl; intro _ wx hS; (try simp only [Act.put, List.setIfInBounds_toArray, List.set_cons_zero, List.set_cons_succ]); (try simp only [Act.eval, Array.getD_eq_getD_getElem?, List.getElem?_toArray, List.getElem?_cons_succ, List.getElem?_cons_zero, Option.getD_some, List.set_cons_succ, List.set_cons_zero, Value.cells, List.toList_toArray] at hS)))
      rcases row_head (hS.at_ 1 rfl) with ⟨_, hh, _⟩ | ⟨⟨gF, rfl⟩, _⟩
      · omega
      clear hf hfi HMK
      have hb0 : ([] : List BR).length ≤ 1000 := Nat.zero_le _
      obtain ⟨b, hb⟩ : ∃ b : List BR, b = [] := ⟨_, rfl⟩
      obtain ⟨ia, hia⟩ : ∃ ia : Option Addr, ia = none := ⟨_, rfl⟩
      obtain ⟨ic, hic⟩ : ∃ ic : Nat, ic = 0 := ⟨_, rfl⟩
      rw [← hb] at HZ hb0
      rw [← hia, ← hic] at HZ
      have hS2 := St.asB ((hS.nilRow 79 2).perm (List.Perm.trans (List.Perm.swap _ _ _) (List.Perm.cons _ (List.Perm.swap _ _ _)))) hb hia hic
      clear hS
      have hS := hS2
      clear hS2
      have HBN := Lib.hid (And.intro hb (And.intro hia hic))
      clear hb hia hic
      go_cut [] (fun wr => ∃ ia' ic', St w0 wr (rdc x (some ⟨gF, 0, none⟩) M.length c1 (clk + t.size) :: .row 76 2 (some ⟨gF, 0, none⟩) M.length c1 ((M.set p ⟨s, ia', ic', b ++ newB clk t⟩).flatMap FileR.cells) :: brow ia' ic' (b ++ newB clk t) :: E))
      case first =>
        go_wp2_with (first | ((with_reducible show WGd ..); (with_reducible apply wpA_guard); exact rfl; skip) | ((with_reducible show WLd ..); (with_reducible apply wpA_load); exact rfl; (first | ((with_reducible apply St.cellI hS); (focus repeat constructor); exact rfl) | assumption); kernel_rfl) | ((with_reducible show WSt ..); (with_reducible apply wpA_store1I hS); exact rfl; (focus repeat constructor); exact rfl; exact rfl; exact rfl; exact rfl; kernel_rfl; intro wx hS; (try simp only [Act.put, List.setIfInBounds_toArray, List.set_cons_zero, List.set_cons_succ]); (try simp only [Act.eval, Array.getD_eq_getD_getElem?, List.getElem?_toArray, List.getElem?_cons_succ, List.getElem?_cons_zero, Option.getD_some, List.set_cons_succ, List.set_cons_zero, Value.cells, List.toList_toArray] at hS)) | ((with_reducible show WBx ..); (with_reducible apply wpA_box hS); exact rfl; exact rfl; intro _ wx hS; (try simp only [Act.put, List.setIfInBounds_toArray, List.set_cons_zero, List.set_cons_succ]); (try simp only [Act.eval, Array.getD_eq_getD_getElem?, List.getElem?_toArray, List.getElem?_cons_succ, List.getElem?_cons_zero, Option.getD_some, List.set_cons_succ, List.set_cons_zero, Value.cells, List.toList_toArray] at hS)))
        go_loopw [9] (fun v9 wr => ∃ (k : Nat) (ia' : Option Addr) (ic' : Nat), k ≤ t.size ∧ v9 = .int .i64 k ∧ St w0 wr (rdc x (some ⟨gF, 0, none⟩) M.length c1 (clk + k) :: .row 76 2 (some ⟨gF, 0, none⟩) M.length c1 ((M.set p ⟨s, ia', ic', b ++ (newB clk t).take k⟩).flatMap FileR.cells) :: brow ia' ic' (b ++ (newB clk t).take k) :: E)) (fun v9 _ => t.size - (intOf v9).toNat)
        case atStart => exact ⟨0, ia, ic, Nat.zero_le _, rfl, by rw [List.take_zero, List.append_nil, set_getElem HZ.out]; simpa using hS⟩
        case round =>
          clear hS
          obtain ⟨k, ia', ic', hk, rfl, hS⟩ := hrel
          by_cases hlt : k < t.size
          · obtain ⟨tb, hti, hnb⟩ := newB_get clk hlt
            have HT : Hid ((b ++ (newB clk t).take k) ++ [(tb, clk + k + 1)] = b ++ (newB clk t).take (k + 1)) := Lib.hid (by rw [List.take_add_one, hnb, List.append_assoc]; rfl)
            have hBl : (b ++ (newB clk t).take k).length ≤ b.length + t.size := by rw [List.length_append, List.length_take]; omega
            obtain ⟨Bk, hBk⟩ : ∃ Bk, b ++ (newB clk t).take k = Bk := ⟨_, rfl⟩
            rw [hBk] at hS HT hBl
            have HZk : Hid ((M.set p ⟨s, ia', ic', Bk⟩)[p]? = some ⟨s, ia', ic', Bk⟩) := Lib.hid (List.getElem?_set_self hi)
            have hw : IntKind.i64.wrap (clk + (k : Int) + 1) = clk + (k : Int) + 1 := by rw [IntKind.wrap_i64]; omega
            clear hBk hnb
            go_upto_region 16 with (first | ((with_reducible show WGd ..); (with_reducible apply wpA_guard); exact rfl; skip) | ((with_reducible show WLd ..); (with_reducible apply wpA_load); exact rfl; (first | ((with_reducible apply St.cellI hS); (focus repeat constructor); exact rfl) | assumption); kernel_rfl) | ((with_reducible show WSt ..); (with_reducible apply wpA_store1I hS); exact rfl; (focus repeat constructor); exact rfl; exact rfl; exact rfl; exact rfl; kernel_rfl; intro wx hS; (try simp only [Act.put, List.setIfInBounds_toArray, List.set_cons_zero, List.set_cons_succ]); (try simp only [Act.eval, Array.getD_eq_getD_getElem?, List.getElem?_toArray, List.getElem?_cons_succ, List.getElem?_cons_zero, Option.getD_some, List.set_cons_succ, List.set_cons_zero, Value.cells, List.toList_toArray] at hS)) | ((with_reducible show WBx ..); (with_reducible apply wpA_box hS); exact rfl; exact rfl; intro _ wx hS; (try simp only [Act.put, List.setIfInBounds_toArray, List.set_cons_zero, List.set_cons_succ]); (try simp only [Act.eval, Array.getD_eq_getD_getElem?, List.getElem?_toArray, List.getElem?_cons_succ, List.getElem?_cons_zero, Option.getD_some, List.set_cons_succ, List.set_cons_zero, Value.cells, List.toList_toArray] at hS)))
            obtain ⟨cur, q1, q2, q3, q4, hS⟩ := hS.rowCells 1 rfl
            simp only [List.set_cons_succ, List.set_cons_zero] at hS
            have hcl : M.length * 2 ≤ cur.length := by rw [q1]; exact Nat.mul_le_mul_right _ q3
            have hfit : (cur[p * 2 + 1]?).isSome = true := by rw [List.getElem?_eq_getElem (by omega)]; rfl
            have hcell : cur[p * 2 + 1]? = some (.slice ia' Bk.length ic') := by
              have h1 := flat_get FileR.cells_length HZk.out 1 (.slice ia' Bk.length ic') rfl
              rw [← q2, List.getElem?_take] at h1
              split at h1
              · exact h1
              · cases h1
            have HC := Lib.hid hcell
            have HQ := Lib.hid (And.intro q1 (And.intro q2 (And.intro q3 (And.intro q4 hcl))))
            clear hcell q1 q2 q3 q4 hcl
            refine wp_region_E2 25 (fun _ h => St.sub h (.cons_cons _ (.cons_cons _ (List.nil_sublist _)))) hS (by kernel_rfl) (fun _ hR hS => ?_)
            simp only [List.length_cons, List.length_nil, Nat.reduceAdd]
            refine takeP_val (i := 0) ?_ rfl (by exact rfl) (by kernel_rfl) (fun _ _ _ h => h) ?_ hR (fun hR => ?_)
            rotate_left
            · intro w; go_simp; (first | done | (with_reducible rfl) | (refine (if_pos ?_).trans ?_; (focus omega); with_reducible rfl) | skip)
            (simp only [Act.put, List.setIfInBounds_toArray, List.set_cons_zero, List.set_cons_succ])
            refine takeP_val (i := 1) ?_ rfl (by exact rfl) (by kernel_rfl) (fun _ _ _ h => h) ?_ hR (fun hR => ?_)
            rotate_left
            · intro w; go_simp; (first | done | (with_reducible rfl) | (refine (if_pos ?_).trans ?_; (focus omega); with_reducible rfl) | skip)
            (simp only [Act.put, List.setIfInBounds_toArray, List.set_cons_zero, List.set_cons_succ])
            refine takeP_val (i := 2) ?_ rfl (by exact rfl) (by kernel_rfl) (fun _ _ _ h => h) ?_ hR (fun hR => ?_)
            rotate_left
            · intro w; go_simp; (first | done | (with_reducible rfl) | (refine (if_pos ?_).trans ?_; (focus omega); with_reducible rfl) | skip)
            (simp only [Act.put, List.setIfInBounds_toArray, List.set_cons_zero, List.set_cons_succ])
            refine takeE_load (i := 3) [25] rfl (by exact rfl) (by kernel_rfl) (fun _ _ _ h => h) (by decide) rfl (fun w hS => by (first | ((with_reducible apply St.cellI hS); (focus repeat constructor); exact rfl) | assumption)) (by kernel_rfl) hR (fun hR => ?_)
            (simp only [Act.put, List.setIfInBounds_toArray, List.set_cons_zero, List.set_cons_succ])
            refine takeP_val (i := 4) ?_ rfl (by exact rfl) (by kernel_rfl) (fun _ _ _ h => h) ?_ hR (fun hR => ?_)
            rotate_left
            · intro w; go_simp; (first | done | (with_reducible rfl) | (refine (if_pos ?_).trans ?_; (focus omega); with_reducible rfl) | skip)
            (simp only [Act.put, List.setIfInBounds_toArray, List.set_cons_zero, List.set_cons_succ])
            refine takeP_val (i := 5) ?_ rfl (by exact rfl) (by kernel_rfl) (fun _ _ _ h => h) ?_ hR (fun hR => ?_)
            rotate_left
            · intro w; go_simp; (first | done | (with_reducible rfl) | (refine (if_pos ?_).trans ?_; (focus omega); with_reducible rfl) | skip)
            (simp only [Act.put, List.setIfInBounds_toArray, List.set_cons_zero, List.set_cons_succ])
            refine takeP_val (i := 6) ?_ rfl (by exact rfl) (by kernel_rfl) (fun _ _ _ h => h) ?_ hR (fun hR => ?_)
            rotate_left
            · intro w; go_simp; (first | done | (with_reducible rfl) | (refine (if_pos ?_).trans ?_; (focus omega); with_reducible rfl) | skip)
            (simp only [Act.put, List.setIfInBounds_toArray, List.set_cons_zero, List.set_cons_succ])
            refine takeP_val (i := 7) ?_ rfl (by exact rfl) (by kernel_rfl) (fun _ _ _ h => h) ?_ hR (fun hR => ?_)
            rotate_left
            · intro w; go_simp; (first | done | (with_reducible rfl) | (refine (if_pos ?_).trans ?_; (focus omega); with_reducible rfl) | skip)
            (simp only [Act.put, List.setIfInBounds_toArray, List.set_cons_zero, List.set_cons_succ])
            refine takeE_load (i := 8) [25] rfl (by exact rfl) (by kernel_rfl) (fun _ _ _ h => h) (by decide) rfl (fun w hS => by (first | ((with_reducible apply St.cellI hS); (focus repeat constructor); exact rfl) | assumption)) (by kernel_rfl) hR (fun hR => ?_)
            (simp only [Act.put, List.setIfInBounds_toArray, List.set_cons_zero, List.set_cons_succ])
            refine takeP_val (i := 9) ?_ rfl (by exact rfl) (by kernel_rfl) (fun _ _ _ h => h) ?_ hR (fun hR => ?_)
            rotate_left
            · intro w; go_simp; (first | done | (with_reducible rfl) | (refine (if_pos ?_).trans ?_; (focus omega); with_reducible rfl) | skip)
            (simp only [Act.put, List.setIfInBounds_toArray, List.set_cons_zero, List.set_cons_succ])
            refine takeP_val (i := 10) ?_ rfl (by exact rfl) (by kernel_rfl) (fun _ _ _ h => h) ?_ hR (fun hR => ?_)
            rotate_left
            · intro w; go_simp; (first | done | (with_reducible rfl) | (refine (if_pos ?_).trans ?_; (focus omega); with_reducible rfl) | skip)
            (simp only [Act.put, List.setIfInBounds_toArray, List.set_cons_zero, List.set_cons_succ])
            refine takeP_val (i := 11) ?_ rfl (by exact rfl) (by kernel_rfl) (fun _ _ _ h => h) ?_ hR (fun hR => ?_)
            rotate_left
            · intro w; go_simp; (first | done | (with_reducible rfl) | (refine (if_pos ?_).trans ?_; (focus omega); with_reducible rfl) | skip)
            (simp only [Act.put, List.setIfInBounds_toArray, List.set_cons_zero, List.set_cons_succ])
            refine takeE_load (i := 12) [25] rfl (by exact rfl) (by kernel_rfl) (fun _ _ _ h => h) (by decide) rfl (fun w hS => hS.cell 1 rfl (p * 2 + 1) HC.out) (by kernel_rfl) hR (fun hR => ?_)
            (simp only [Act.put, List.setIfInBounds_toArray, List.set_cons_zero, List.set_cons_succ])
            refine takeP_val (i := 13) ?_ rfl (by exact rfl) (by kernel_rfl) (fun _ _ _ h => h) ?_ hR (fun hR => ?_)
            rotate_left
            · intro w; go_simp; (first | done | (with_reducible rfl) | (refine (if_pos ?_).trans ?_; (focus omega); with_reducible rfl) | skip)
            (simp only [Act.put, List.setIfInBounds_toArray, List.set_cons_zero, List.set_cons_succ])
            refine takeP_val (i := 14) ?_ rfl (by exact rfl) (by kernel_rfl) (fun _ _ _ h => h) ?_ hR (fun hR => ?_)
            rotate_left
            · intro w; go_simp; (first | done | (with_reducible rfl) | (refine (if_pos ?_).trans ?_; (focus omega); with_reducible rfl) | skip)
            (simp only [Act.put, List.setIfInBounds_toArray, List.set_cons_zero, List.set_cons_succ])
            refine takeP_val (i := 15) (.int .u8 tb.toNat) rfl (by exact rfl) (by kernel_rfl) (fun _ _ _ h => h) (fun w => by exact exec_index_str Try.underlying9 rfl rfl hti) hR (fun hR => ?_)
            (simp only [Act.put, List.setIfInBounds_toArray, List.set_cons_zero, List.set_cons_succ])
            refine takeP_val (i := 16) ?_ rfl (by exact rfl) (by kernel_rfl) (fun _ _ _ h => h) ?_ hR (fun hR => ?_)
            rotate_left
            · intro w; go_simp; (first | done | (with_reducible rfl) | (refine (if_pos ?_).trans ?_; (focus omega); with_reducible rfl) | skip)
            (simp only [Act.put, List.setIfInBounds_toArray, List.set_cons_zero, List.set_cons_succ])
            refine takeP_val (i := 17) ?_ rfl (by exact rfl) (by kernel_rfl) (fun _ _ _ h => h) ?_ hR (fun hR => ?_)
            rotate_left
            · intro w; go_simp; (first | done | (with_reducible rfl) | (refine (if_pos ?_).trans ?_; (focus omega); with_reducible rfl) | skip)
            (simp only [Act.put, List.setIfInBounds_toArray, List.set_cons_zero, List.set_cons_succ])
            refine takeP_val (i := 18) ?_ rfl (by exact rfl) (by kernel_rfl) (fun _ _ _ h => h) ?_ hR (fun hR => ?_)
            rotate_left
            · intro w; go_simp; (first | done | (with_reducible rfl) | (refine (if_pos ?_).trans ?_; (focus omega); with_reducible rfl) | skip)
            (simp only [Act.put, List.setIfInBounds_toArray, List.set_cons_zero, List.set_cons_succ])
            refine takeE_load (i := 19) [25] rfl (by exact rfl) (by kernel_rfl) (fun _ _ _ h => h) (by decide) rfl (fun w hS => by (first | ((with_reducible apply St.cellI hS); (focus repeat constructor); exact rfl) | assumption)) (by kernel_rfl) hR (fun hR => ?_)
            (simp only [Act.put, List.setIfInBounds_toArray, List.set_cons_zero, List.set_cons_succ])
            refine takeP_val (i := 20) ?_ rfl (by exact rfl) (by kernel_rfl) (fun _ _ _ h => h) ?_ hR (fun hR => ?_)
            rotate_left
            · intro w; go_simp; (first | done | (with_reducible rfl) | (refine (if_pos ?_).trans ?_; (focus omega); with_reducible rfl) | skip)
            (simp only [Act.put, List.setIfInBounds_toArray, List.set_cons_zero, List.set_cons_succ])
            refine oneE (i := 21) (by kernel_rfl) rfl (by exact rfl) (fun K_ hK_ => ?_)
            ((with_reducible apply opA_oneN hS (z := .agg #[.int .u8 0, .int .i64 0]) (bytes := 16) (size := 2)); exact Try.underlying74; kernel_rfl; exact rfl; exact rfl; exact rfl; exact (by decide); exact (by decide); intro _ wx hS; (try simp only [Act.eval, Array.getD_eq_getD_getElem?, List.getElem?_toArray, List.getElem?_cons_succ, List.getElem?_cons_zero, Option.getD_some, List.set_cons_succ, List.set_cons_zero, Value.cells, List.toList_toArray] at hS))
            refine hK_ _ _ (fun _ => ((St.sub hS (.cons _ (.cons_cons _ (.cons_cons _ (List.nil_sublist _))))))) ?_; clear hK_ K_
            (simp only [Act.put, List.setIfInBounds_toArray, List.set_cons_zero, List.set_cons_succ])
            refine oneE (i := 22) (by kernel_rfl) rfl (by exact rfl) (fun K_ hK_ => ?_)
            ((with_reducible apply opA_append hS 3 (z := .agg #[.int .u8 0, .int .i64 0]) (size := 2) (bytes := 16)); exact rfl; exact rfl; exact rfl; exact Try.underlying74; exact .inr Try.underlying74; kernel_rfl; exact rfl; exact (Src.freshN (m := 1) hS 0 rfl rfl (by rfl)); exact (by unfold maxLen; omega); exact (by omega); intro ao2 cap2 wx hS)
            refine hK_ _ _ (fun _ => ((St.sub hS (.cons _ (.cons_cons _ (.cons_cons _ (List.nil_sublist _))))))) ?_; clear hK_ K_
            (simp only [Act.put, List.setIfInBounds_toArray, List.set_cons_zero, List.set_cons_succ])
            refine takeP_val (i := 23) ?_ rfl (by exact rfl) (by kernel_rfl) (fun _ _ _ h => h) ?_ (fun _ => (St.sub hS (.cons _ (.cons_cons _ (.cons_cons _ (List.nil_sublist _)))))) (fun hR => ?_)
            rotate_left
            · intro w; go_simp; (first | done | (with_reducible rfl) | (refine (if_pos ?_).trans ?_; (focus omega); with_reducible rfl) | skip)
            (simp only [Act.put, List.setIfInBounds_toArray, List.set_cons_zero, List.set_cons_succ])
            refine takeP_val (i := 24) ?_ rfl (by exact rfl) (by kernel_rfl) (fun _ _ _ h => h) ?_ hR (fun hR => ?_)
            rotate_left
            · intro w; go_simp; (first | done | (with_reducible rfl) | (refine (if_pos ?_).trans ?_; (focus omega); with_reducible rfl) | skip)
            (simp only [Act.put, List.setIfInBounds_toArray, List.set_cons_zero, List.set_cons_succ])
            refine oneE (i := 25) (by kernel_rfl) rfl (by exact rfl) (fun K_ hK_ => ?_)
            ((with_reducible apply opA_store1 hS 2); exact rfl; exact rfl; exact rfl; exact rfl; exact rfl; exact hfit; kernel_rfl; intro wx hS; (try simp only [Act.eval, Array.getD_eq_getD_getElem?, List.getElem?_toArray, List.getElem?_cons_succ, List.getElem?_cons_zero, Option.getD_some, List.set_cons_succ, List.set_cons_zero, Value.cells, List.toList_toArray] at hS))
            refine hK_ _ _ (fun h => by cases h) ?_; clear hK_ K_
            (simp only [Act.put, List.setIfInBounds_toArray, List.set_cons_zero, List.set_cons_succ])
            refine wpAnyR_done (by kernel_rfl) ?_ _
            (try simp only [Act.put, Act.eval, Array.getD_eq_getD_getElem?, List.setIfInBounds_toArray, List.getElem?_toArray, List.getElem?_cons_succ, List.getElem?_cons_zero, Option.getD_some, List.set_cons_succ, List.set_cons_zero, Value.cells, List.toList_toArray] at hS)
            replace hS := hS.tail
            go_wp2_with (first | ((with_reducible show WGd ..); (with_reducible apply wpA_guard); exact rfl; skip) | ((with_reducible show WLd ..); (with_reducible apply wpA_load); exact rfl; (first | ((with_reducible apply St.cellI hS); (focus repeat constructor); exact rfl) | assumption); kernel_rfl) | ((with_reducible show WSt ..); (with_reducible apply wpA_store1I hS); exact rfl; (focus repeat constructor); exact rfl; exact rfl; exact rfl; exact rfl; kernel_rfl; intro wx hS; (try simp only [Act.put, List.setIfInBounds_toArray, List.set_cons_zero, List.set_cons_succ]); (try simp only [Act.eval, Array.getD_eq_getD_getElem?, List.getElem?_toArray, List.getElem?_cons_succ, List.getElem?_cons_zero, Option.getD_some, List.set_cons_succ, List.set_cons_zero, Value.cells, List.toList_toArray] at hS)) | ((with_reducible show WBx ..); (with_reducible apply wpA_box hS); exact rfl; exact rfl; intro _ wx hS; (try simp only [Act.put, List.setIfInBounds_toArray, List.set_cons_zero, List.set_cons_succ]); (try simp only [Act.eval, Array.getD_eq_getD_getElem?, List.getElem?_toArray, List.getElem?_cons_succ, List.getElem?_cons_zero, Option.getD_some, List.set_cons_succ, List.set_cons_zero, Value.cells, List.toList_toArray] at hS)))
            obtain ⟨q1, q2, q3, q4, hcl⟩ := HQ.out
            have e1 : Bk.flatMap bcells ++ [Value.int .u8 tb.toNat, Value.int .i64 (clk + k + 1)] = (Bk ++ [(tb, clk + (k : Int) + 1)]).flatMap bcells := by rw [List.flatMap_append]; rfl
            have e2 : Bk.length + 1 = (Bk ++ [(tb, clk + (k : Int) + 1)]).length := by rw [List.length_append]; rfl
            have hrow := row_set1 (f := FileR.cells) FileR.cells_length (l := M.set p ⟨s, ia', ic', Bk⟩) (v := .slice ao2 (Bk.length + 1) cap2) (q := 1) (y := ⟨s, ao2, cap2, Bk ++ [(tb, clk + (k : Int) + 1)]⟩) HZk.out (by rw [List.length_set]; exact q2) (by rw [List.length_set]; exact hcl) (by decide) (by rw [e2]; rfl)
            rw [List.length_set, List.set_set] at hrow
            have hS2 := St.cellsRow hS 1 rfl (n := M.length) (cap := c1) (by rw [List.length_set]; exact q1) hrow q3 q4
            simp only [List.set_cons_succ, List.set_cons_zero] at hS2
            rw [e1, e2] at hS2
            rw [HT.out] at hS2
            clear hS
            have hS := hS2
            clear hS2
            go_roundw
            case rel => exact ⟨k + 1, ao2, cap2, by omega, by go_num, by rw [show clk + ((k + 1 : Nat) : Int) = clk + (k : Int) + 1 by omega]; exact hS⟩
            case measure => simp [intOf]; omega
          · obtain rfl : k = t.size := by omega
            go_wp2_with (first | ((with_reducible show WGd ..); (with_reducible apply wpA_guard); exact rfl; skip) | ((with_reducible show WLd ..); (with_reducible apply wpA_load); exact rfl; (first | ((with_reducible apply St.cellI hS); (focus repeat constructor); exact rfl) | assumption); kernel_rfl) | ((with_reducible show WSt ..); (with_reducible apply wpA_store1I hS); exact rfl; (focus repeat constructor); exact rfl; exact rfl; exact rfl; exact rfl; kernel_rfl; intro wx hS; (try simp only [Act.put, List.setIfInBounds_toArray, List.set_cons_zero, List.set_cons_succ]); (try simp only [Act.eval, Array.getD_eq_getD_getElem?, List.getElem?_toArray, List.getElem?_cons_succ, List.getElem?_cons_zero, Option.getD_some, List.set_cons_succ, List.set_cons_zero, Value.cells, List.toList_toArray] at hS)) | ((with_reducible show WBx ..); (with_reducible apply wpA_box hS); exact rfl; exact rfl; intro _ wx hS; (try simp only [Act.put, List.setIfInBounds_toArray, List.set_cons_zero, List.set_cons_succ]); (try simp only [Act.eval, Array.getD_eq_getD_getElem?, List.getElem?_toArray, List.getElem?_cons_succ, List.getElem?_cons_zero, Option.getD_some, List.set_cons_succ, List.set_cons_zero, Value.cells, List.toList_toArray] at hS)))
            go_meet
            rw [List.take_of_length_le (by rw [newB_length]; exact Nat.le_refl _)] at hS
            exact ⟨ia', ic', hS⟩
      clear hS
      obtain ⟨ia', ic', hS⟩ := hcut
      go_wp2_with (first | ((with_reducible show WGd ..); (with_reducible apply wpA_guard); exact rfl; skip) | ((with_reducible show WLd ..); (with_reducible apply wpA_load); exact rfl; (first | ((with_reducible apply St.cellI hS); (focus repeat constructor); exact rfl) | assumption); kernel_rfl) | ((with_reducible show WSt ..); (with_reducible apply wpA_store1I hS); exact rfl; (focus repeat constructor); exact rfl; exact rfl; exact rfl; exact rfl; kernel_rfl; intro wx hS; (try simp only [Act.put, List.setIfInBounds_toArray, List.set_cons_zero, List.set_cons_succ]); (try simp only [Act.eval, Array.getD_eq_getD_getElem?, List.getElem?_toArray, List.getElem?_cons_succ, List.getElem?_cons_zero, Option.getD_some, List.set_cons_succ, List.set_cons_zero, Value.cells, List.toList_toArray] at hS)) | ((with_reducible show WBx ..); (with_reducible apply wpA_box hS); exact rfl; exact rfl; intro _ wx hS; (try simp only [Act.put, List.setIfInBounds_toArray, List.set_cons_zero, List.set_cons_succ]); (try simp only [Act.eval, Array.getD_eq_getD_getElem?, List.getElem?_toArray, List.getElem?_cons_succ, List.getElem?_cons_zero, Option.getD_some, List.set_cons_succ, List.set_cons_zero, Value.cells, List.toList_toArray] at hS)))
      go_ret
      obtain ⟨rfl, _, _⟩ := HBN.out
      obtain ⟨hL, hset, hM, hp, hD0, hE⟩ := HS.out
      rw [List.nil_append] at hS
      refine ⟨rfl, some ⟨gF, 0, none⟩, c1, M.set p ⟨s, ia', ic', newB clk t⟩, ?_, ?_⟩
      · rw [hset, List.map_append, List.map_cons]
        show _ = insR l s (newB clk t)
        unfold insR
        rw [← hL, List.takeWhile_map, List.dropWhile_map]
        rfl
      · rw [← hE] at hS
        have h2 := St.putIn (w0 := w0) (f := fhp) (A := [rdc x (some ⟨gF, 0, none⟩) M.length c1 (clk + t.size), .row 76 2 (some ⟨gF, 0, none⟩) M.length c1 ((M.set p ⟨s, ia', ic', newB clk t⟩).flatMap FileR.cells)]) (R := R) (z' := ⟨s, ia', ic', newB clk t⟩) HZ.out (hS.perm (List.Perm.cons _ (List.Perm.cons _ (List.Perm.cons _ hD0.symm))))
        show St w0 _ (rdc x _ (M.set p ⟨s, ia', ic', newB clk t⟩).length c1 _ :: .row _ _ _ (M.set p ⟨s, ia', ic', newB clk t⟩).length _ _ :: _)
        rw [List.length_set]
        exact h2
    | some i =>
      obtain ⟨a, c, L, ia, ic, b, D, hll, hz, hb, hf, hS, hbk0, hbk⟩ := h.file hr
      have hl : L.length ≤ 1000000 := by rw [hll]; exact ok.len
      have hbl : b.length ≤ 4194304 := ok.bytes _ (List.mem_of_getElem? hb)
      have hi : i < L.length := (List.getElem?_eq_some_iff.1 hz).1
      have hd0 : decide ((i : Int) < 0) = false := by simp
      have hd1 : decide (0 ≤ (i : Int)) = true := by simp
      have hww : IntKind.i64.wrap (4194304 - (b.length : Int)) = 4194304 - (b.length : Int) := by rw [IntKind.wrap_i64]; omega
      rcases row_head (hS.at_ 1 rfl) with ⟨_, hh, _⟩ | ⟨⟨gF, rfl⟩, _⟩
      · omega
      simp only [hb]
      have HZ := Lib.hid hz
      have HB := Lib.hid hbk
      have HB0 := Lib.hid hbk0
      clear hz hbk hbk0 hb hr h ok
      by_cases hfit0 : b.length + t.size ≤ 4194304
      · rw [if_pos hfit0]
        have hdd : decide (4194304 - (b.length : Int) < (t.size : Int)) = false := by simp; omega
        obtain ⟨l, clk⟩ := ρ
        simp only at hS HB hll hc0 hc1 ⊢
        have HLL := Lib.hid hll
        clear hll
        go_enter Try.func24, Try.ntmps24
        go_upto_block 0 with (first | ((with_reducible show WGd ..); (with_reducible apply wpA_guard); exact rfl; skip) | (go_at_call 39; with_reducible refine (hc _).mono ?_; rintro _ _ ⟨rfl, rfl⟩) | (go_at_call 40; with_reducible refine (rfind_e hS s (by omega) hf).mono ?_; rintro _ _ ⟨rfl, hS⟩) | ((with_reducible show WLd ..); (with_reducible apply wpA_load); exact rfl; exact (row_elem FileR.cells_length (hS.at_ 1 rfl) HZ.out) 1 _ rfl; kernel_rfl) | ((with_reducible show WLd ..); (with_reducible apply wpA_load); exact rfl; (first | ((with_reducible apply St.cellI hS); (focus repeat constructor); exact rfl) | assumption); kernel_rfl) | ((with_reducible show WSt ..); (with_reducible apply wpA_store1I hS); exact rfl; (focus repeat constructor); exact rfl; exact rfl; exact rfl; exact rfl; kernel_rfl; intro wx hS; (try simp only [Act.put, List.setIfInBounds_toArray, List.set_cons_zero, List.set_cons_succ]); (try simp only [Act.eval, Array.getD_eq_getD_getElem?, List.getElem?_toArray, List.getElem?_cons_succ, List.getElem?_cons_zero, Option.getD_some, List.set_cons_succ, List.set_cons_zero, Value.cells, List.toList_toArray] at hS)) | ((with_reducible show WBx ..); (with_reducible apply wpA_box hS); exact rfl; exact rfl; intro _ wx hS; (try simp only [Act.put, List.setIfInBounds_toArray, List.set_cons_zero, List.set_cons_succ]); (try simp only [Act.eval, Array.getD_eq_getD_getElem?, List.getElem?_toArray, List.getElem?_cons_succ, List.getElem?_cons_zero, Option.getD_some, List.set_cons_succ, List.set_cons_zero, Value.cells, List.toList_toArray] at hS)))
        go_cut [] (fun wr => ∃ ia' ic', St w0 wr (rdc x (some ⟨gF, 0, none⟩) L.length c (clk + t.size) :: .row 76 2 (some ⟨gF, 0, none⟩) L.length c ((L.set i ⟨s, ia', ic', b ++ newB clk t⟩).flatMap FileR.cells) :: brow ia' ic' (b ++ newB clk t) :: D))
        case first =>
          go_wp2_with (first | ((with_reducible show WGd ..); (with_reducible apply wpA_guard); exact rfl; skip) | ((with_reducible show WLd ..); (with_reducible apply wpA_load); exact rfl; (first | ((with_reducible apply St.cellI hS); (focus repeat constructor); exact rfl) | assumption); kernel_rfl) | ((with_reducible show WSt ..); (with_reducible apply wpA_store1I hS); exact rfl; (focus repeat constructor); exact rfl; exact rfl; exact rfl; exact rfl; kernel_rfl; intro wx hS; (try simp only [Act.put, List.setIfInBounds_toArray, List.set_cons_zero, List.set_cons_succ]); (try simp only [Act.eval, Array.getD_eq_getD_getElem?, List.getElem?_toArray, List.getElem?_cons_succ, List.getElem?_cons_zero, Option.getD_some, List.set_cons_succ, List.set_cons_zero, Value.cells, List.toList_toArray] at hS)) | ((with_reducible show WBx ..); (with_reducible apply wpA_box hS); exact rfl; exact rfl; intro _ wx hS; (try simp only [Act.put, List.setIfInBounds_toArray, List.set_cons_zero, List.set_cons_succ]); (try simp only [Act.eval, Array.getD_eq_getD_getElem?, List.getElem?_toArray, List.getElem?_cons_succ, List.getElem?_cons_zero, Option.getD_some, List.set_cons_succ, List.set_cons_zero, Value.cells, List.toList_toArray] at hS)))
          go_loopw [9] (fun v9 wr => ∃ (k : Nat) (ia' : Option Addr) (ic' : Nat), k ≤ t.size ∧ v9 = .int .i64 k ∧ St w0 wr (rdc x (some ⟨gF, 0, none⟩) L.length c (clk + k) :: .row 76 2 (some ⟨gF, 0, none⟩) L.length c ((L.set i ⟨s, ia', ic', b ++ (newB clk t).take k⟩).flatMap FileR.cells) :: brow ia' ic' (b ++ (newB clk t).take k) :: D)) (fun v9 _ => t.size - (intOf v9).toNat)
          case atStart => exact ⟨0, ia, ic, Nat.zero_le _, rfl, by rw [List.take_zero, List.append_nil, set_getElem HZ.out]; simpa using hS⟩
          case round =>
            clear hS
            obtain ⟨k, ia', ic', hk, rfl, hS⟩ := hrel
            by_cases hlt : k < t.size
            · obtain ⟨tb, hti, hnb⟩ := newB_get clk hlt
              have HT : Hid ((b ++ (newB clk t).take k) ++ [(tb, clk + k + 1)] = b ++ (newB clk t).take (k + 1)) := Lib.hid (by rw [List.take_add_one, hnb, List.append_assoc]; rfl)
              have hBl : (b ++ (newB clk t).take k).length ≤ b.length + t.size := by rw [List.length_append, List.length_take]; omega
              obtain ⟨Bk, hBk⟩ : ∃ Bk, b ++ (newB clk t).take k = Bk := ⟨_, rfl⟩
              rw [hBk] at hS HT hBl
              have HZk : Hid ((L.set i ⟨s, ia', ic', Bk⟩)[i]? = some ⟨s, ia', ic', Bk⟩) := Lib.hid (List.getElem?_set_self hi)
              have hw : IntKind.i64.wrap (clk + (k : Int) + 1) = clk + (k : Int) + 1 := by rw [IntKind.wrap_i64]; omega
              clear hBk hnb
              go_upto_region 16 with (first | ((with_reducible show WGd ..); (with_reducible apply wpA_guard); exact rfl; skip) | ((with_reducible show WLd ..); (with_reducible apply wpA_load); exact rfl; (first | ((with_reducible apply St.cellI hS); (focus repeat constructor); exact rfl) | assumption); kernel_rfl) | ((with_reducible show WSt ..); (with_reducible apply wpA_store1I hS); exact rfl; (focus repeat constructor); exact rfl; exact rfl; exact rfl; exact rfl; kernel_rfl; intro wx hS; (try simp only [Act.put, List.setIfInBounds_toArray, List.set_cons_zero, List.set_cons_succ]); (try simp only [Act.eval, Array.getD_eq_getD_getElem?, List.getElem?_toArray, List.getElem?_cons_succ, List.getElem?_cons_zero, Option.getD_some, List.set_cons_succ, List.set_cons_zero, Value.cells, List.toList_toArray] at hS)) | ((with_reducible show WBx ..); (with_reducible apply wpA_box hS); exact rfl; exact rfl; intro _ wx hS; (try simp only [Act.put, List.setIfInBounds_toArray, List.set_cons_zero, List.set_cons_succ]); (try simp only [Act.eval, Array.getD_eq_getD_getElem?, List.getElem?_toArray, List.getElem?_cons_succ, List.getElem?_cons_zero, Option.getD_some, List.set_cons_succ, List.set_cons_zero, Value.cells, List.toList_toArray] at hS)))
              obtain ⟨cur, q1, q2, q3, q4, hS⟩ := hS.rowCells 1 rfl
              simp only [List.set_cons_succ, List.set_cons_zero] at hS
              have hcl : L.length * 2 ≤ cur.length := by rw [q1]; exact Nat.mul_le_mul_right _ q3
              have hfit : (cur[i * 2 + 1]?).isSome = true := by rw [List.getElem?_eq_getElem (by omega)]; rfl
              have hcell : cur[i * 2 + 1]? = some (.slice ia' Bk.length ic') := by
                have h1 := flat_get FileR.cells_length HZk.out 1 (.slice ia' Bk.length ic') rfl
                rw [← q2, List.getElem?_take] at h1
                split at h1
                · exact h1
                · cases h1
              have HC := Lib.hid hcell
              have HQ := Lib.hid (And.intro q1 (And.intro q2 (And.intro q3 (And.intro q4 hcl))))
              clear hcell q1 q2 q3 q4 hcl
              refine wp_region_E2 25 (fun _ h => St.sub h (.cons_cons _ (.cons_cons _ (List.nil_sublist _)))) hS (by kernel_rfl) (fun _ hR hS => ?_)
              simp only [List.length_cons, List.length_nil, Nat.reduceAdd]
              refine takeP_val (i := 0) ?_ rfl (by exact rfl) (by kernel_rfl) (fun _ _ _ h => h) ?_ hR (fun hR => ?_)
              rotate_left
              · intro w; go_simp; (first | done | (with_reducible rfl) | (refine (if_pos ?_).trans ?_; (focus omega); with_reducible rfl) | skip)
              (simp only [Act.put, List.setIfInBounds_toArray, List.set_cons_zero, List.set_cons_succ])
              refine takeP_val (i := 1) ?_ rfl (by exact rfl) (by kernel_rfl) (fun _ _ _ h => h) ?_ hR (fun hR => ?_)
              rotate_left
              · intro w; go_simp; (first | done | (with_reducible rfl) | (refine (if_pos ?_).trans ?_; (focus omega); with_reducible rfl) | skip)
              (simp only [Act.put, List.setIfInBounds_toArray, List.set_cons_zero, List.set_cons_succ])
              refine takeP_val (i := 2) ?_ rfl (by exact rfl) (by kernel_rfl) (fun _ _ _ h => h) ?_ hR (fun hR => ?_)
              rotate_left
              · intro w; go_simp; (first | done | (with_reducible rfl) | (refine (if_pos ?_).trans ?_; (focus omega); with_reducible rfl) | skip)
              (simp only [Act.put, List.setIfInBounds_toArray, List.set_cons_zero, List.set_cons_succ])
              refine takeE_load (i := 3) [25] rfl (by exact rfl) (by kernel_rfl) (fun _ _ _ h => h) (by decide) rfl (fun w hS => by (first | ((with_reducible apply St.cellI hS); (focus repeat constructor); exact rfl) | assumption)) (by kernel_rfl) hR (fun hR => ?_)
              (simp only [Act.put, List.setIfInBounds_toArray, List.set_cons_zero, List.set_cons_succ])
              refine takeP_val (i := 4) ?_ rfl (by exact rfl) (by kernel_rfl) (fun _ _ _ h => h) ?_ hR (fun hR => ?_)
              rotate_left
              · intro w; go_simp; (first | done | (with_reducible rfl) | (refine (if_pos ?_).trans ?_; (focus omega); with_reducible rfl) | skip)
              (simp only [Act.put, List.setIfInBounds_toArray, List.set_cons_zero, List.set_cons_succ])
              refine takeP_val (i := 5) ?_ rfl (by exact rfl) (by kernel_rfl) (fun _ _ _ h => h) ?_ hR (fun hR => ?_)
              rotate_left
              · intro w; go_simp; (first | done | (with_reducible rfl) | (refine (if_pos ?_).trans ?_; (focus omega); with_reducible rfl) | skip)
              (simp only [Act.put, List.setIfInBounds_toArray, List.set_cons_zero, List.set_cons_succ])
              refine takeP_val (i := 6) ?_ rfl (by exact rfl) (by kernel_rfl) (fun _ _ _ h => h) ?_ hR (fun hR => ?_)
              rotate_left
              · intro w; go_simp; (first | done | (with_reducible rfl) | (refine (if_pos ?_).trans ?_; (focus omega); with_reducible rfl) | skip)
              (simp only [Act.put, List.setIfInBounds_toArray, List.set_cons_zero, List.set_cons_succ])
              refine takeP_val (i := 7) ?_ rfl (by exact rfl) (by kernel_rfl) (fun _ _ _ h => h) ?_ hR (fun hR => ?_)
              rotate_left
              · intro w; go_simp; (first | done | (with_reducible rfl) | (refine (if_pos ?_).trans ?_; (focus omega); with_reducible rfl) | skip)
              (simp only [Act.put, List.setIfInBounds_toArray, List.set_cons_zero, List.set_cons_succ])
              refine takeE_load (i := 8) [25] rfl (by exact rfl) (by kernel_rfl) (fun _ _ _ h => h) (by decide) rfl (fun w hS => by (first | ((with_reducible apply St.cellI hS); (focus repeat constructor); exact rfl) | assumption)) (by kernel_rfl) hR (fun hR => ?_)
              (simp only [Act.put, List.setIfInBounds_toArray, List.set_cons_zero, List.set_cons_succ])
              refine takeP_val (i := 9) ?_ rfl (by exact rfl) (by kernel_rfl) (fun _ _ _ h => h) ?_ hR (fun hR => ?_)
              rotate_left
              · intro w; go_simp; (first | done | (with_reducible rfl) | (refine (if_pos ?_).trans ?_; (focus omega); with_reducible rfl) | skip)
              (simp only [Act.put, List.setIfInBounds_toArray, List.set_cons_zero, List.set_cons_succ])
              refine takeP_val (i := 10) ?_ rfl (by exact rfl) (by kernel_rfl) (fun _ _ _ h => h) ?_ hR (fun hR => ?_)
              rotate_left
              · intro w; go_simp; (first | done | (with_reducible rfl) | (refine (if_pos ?_).trans ?_; (focus omega); with_reducible rfl) | skip)
              (simp only [Act.put, List.setIfInBounds_toArray, List.set_cons_zero, List.set_cons_succ])
              refine takeP_val (i := 11) ?_ rfl (by exact rfl) (by kernel_rfl) (fun _ _ _ h => h) ?_ hR (fun hR => ?_)
              rotate_left
              · intro w; go_simp; (first | done | (with_reducible rfl) | (refine (if_pos ?_).trans ?_; (focus omega); with_reducible rfl) | skip)
              (simp only [Act.put, List.setIfInBounds_toArray, List.set_cons_zero, List.set_cons_succ])
              refine takeE_load (i := 12) [25] rfl (by exact rfl) (by kernel_rfl) (fun _ _ _ h => h) (by decide) rfl (fun w hS => hS.cell 1 rfl (i * 2 + 1) HC.out) (by kernel_rfl) hR (fun hR => ?_)
              (simp only [Act.put, List.setIfInBounds_toArray, List.set_cons_zero, List.set_cons_succ])
              refine takeP_val (i := 13) ?_ rfl (by exact rfl) (by kernel_rfl) (fun _ _ _ h => h) ?_ hR (fun hR => ?_)
              rotate_left
              · intro w; go_simp; (first | done | (with_reducible rfl) | (refine (if_pos ?_).trans ?_; (focus omega); with_reducible rfl) | skip)
              (simp only [Act.put, List.setIfInBounds_toArray, List.set_cons_zero, List.set_cons_succ])
              refine takeP_val (i := 14) ?_ rfl (by exact rfl) (by kernel_rfl) (fun _ _ _ h => h) ?_ hR (fun hR => ?_)
              rotate_left
              · intro w; go_simp; (first | done | (with_reducible rfl) | (refine (if_pos ?_).trans ?_; (focus omega); with_reducible rfl) | skip)
              (simp only [Act.put, List.setIfInBounds_toArray, List.set_cons_zero, List.set_cons_succ])
              refine takeP_val (i := 15) (.int .u8 tb.toNat) rfl (by exact rfl) (by kernel_rfl) (fun _ _ _ h => h) (fun w => by exact exec_index_str Try.underlying9 rfl rfl hti) hR (fun hR => ?_)
              (simp only [Act.put, List.setIfInBounds_toArray, List.set_cons_zero, List.set_cons_succ])
              refine takeP_val (i := 16) ?_ rfl (by exact rfl) (by kernel_rfl) (fun _ _ _ h => h) ?_ hR (fun hR => ?_)
              rotate_left
              · intro w; go_simp; (first | done | (with_reducible rfl) | (refine (if_pos ?_).trans ?_; (focus omega); with_reducible rfl) | skip)
              (simp only [Act.put, List.setIfInBounds_toArray, List.set_cons_zero, List.set_cons_succ])
              refine takeP_val (i := 17) ?_ rfl (by exact rfl) (by kernel_rfl) (fun _ _ _ h => h) ?_ hR (fun hR => ?_)
              rotate_left
              · intro w; go_simp; (first | done | (with_reducible rfl) | (refine (if_pos ?_).trans ?_; (focus omega); with_reducible rfl) | skip)
              (simp only [Act.put, List.setIfInBounds_toArray, List.set_cons_zero, List.set_cons_succ])
              refine takeP_val (i := 18) ?_ rfl (by exact rfl) (by kernel_rfl) (fun _ _ _ h => h) ?_ hR (fun hR => ?_)
              rotate_left
              · intro w; go_simp; (first | done | (with_reducible rfl) | (refine (if_pos ?_).trans ?_; (focus omega); with_reducible rfl) | skip)
              (simp only [Act.put, List.setIfInBounds_toArray, List.set_cons_zero, List.set_cons_succ])
              refine takeE_load (i := 19) [25] rfl (by exact rfl) (by kernel_rfl) (fun _ _ _ h => h) (by decide) rfl (fun w hS => by (first | ((with_reducible apply St.cellI hS); (focus repeat constructor); exact rfl) | assumption)) (by kernel_rfl) hR (fun hR => ?_)
              (simp only [Act.put, List.setIfInBounds_toArray, List.set_cons_zero, List.set_cons_succ])
              refine takeP_val (i := 20) ?_ rfl (by exact rfl) (by kernel_rfl) (fun _ _ _ h => h) ?_ hR (fun hR => ?_)
              rotate_left
              · intro w; go_simp; (first | done | (with_reducible rfl) | (refine (if_pos ?_).trans ?_; (focus omega); with_reducible rfl) | skip)
              (simp only [Act.put, List.setIfInBounds_toArray, List.set_cons_zero, List.set_cons_succ])
              refine oneE (i := 21) (by kernel_rfl) rfl (by exact rfl) (fun K_ hK_ => ?_)
              ((with_reducible apply opA_oneN hS (z := .agg #[.int .u8 0, .int .i64 0]) (bytes := 16) (size := 2)); exact Try.underlying74; kernel_rfl; exact rfl; exact rfl; exact rfl; exact (by decide); exact (by decide); intro _ wx hS; (try simp only [Act.eval, Array.getD_eq_getD_getElem?, List.getElem?_toArray, List.getElem?_cons_succ, List.getElem?_cons_zero, Option.getD_some, List.set_cons_succ, List.set_cons_zero, Value.cells, List.toList_toArray] at hS))
              refine hK_ _ _ (fun _ => ((St.sub hS (.cons _ (.cons_cons _ (.cons_cons _ (List.nil_sublist _))))))) ?_; clear hK_ K_
              (simp only [Act.put, List.setIfInBounds_toArray, List.set_cons_zero, List.set_cons_succ])
              refine oneE (i := 22) (by kernel_rfl) rfl (by exact rfl) (fun K_ hK_ => ?_)
              ((with_reducible apply opA_append hS 3 (z := .agg #[.int .u8 0, .int .i64 0]) (size := 2) (bytes := 16)); exact rfl; exact rfl; exact rfl; exact Try.underlying74; exact .inr Try.underlying74; kernel_rfl; exact rfl; exact (Src.freshN (m := 1) hS 0 rfl rfl (by rfl)); exact (by unfold maxLen; omega); exact (by omega); intro ao2 cap2 wx hS)
              refine hK_ _ _ (fun _ => ((St.sub hS (.cons _ (.cons_cons _ (.cons_cons _ (List.nil_sublist _))))))) ?_; clear hK_ K_
              (simp only [Act.put, List.setIfInBounds_toArray, List.set_cons_zero, List.set_cons_succ])
              refine takeP_val (i := 23) ?_ rfl (by exact rfl) (by kernel_rfl) (fun _ _ _ h => h) ?_ (fun _ => (St.sub hS (.cons _ (.cons_cons _ (.cons_cons _ (List.nil_sublist _)))))) (fun hR => ?_)
              rotate_left
              · intro w; go_simp; (first | done | (with_reducible rfl) | (refine (if_pos ?_).trans ?_; (focus omega); with_reducible rfl) | skip)
              (simp only [Act.put, List.setIfInBounds_toArray, List.set_cons_zero, List.set_cons_succ])
              refine takeP_val (i := 24) ?_ rfl (by exact rfl) (by kernel_rfl) (fun _ _ _ h => h) ?_ hR (fun hR => ?_)
              rotate_left
              · intro w; go_simp; (first | done | (with_reducible rfl) | (refine (if_pos ?_).trans ?_; (focus omega); with_reducible rfl) | skip)
              (simp only [Act.put, List.setIfInBounds_toArray, List.set_cons_zero, List.set_cons_succ])
              refine oneE (i := 25) (by kernel_rfl) rfl (by exact rfl) (fun K_ hK_ => ?_)
              ((with_reducible apply opA_store1 hS 2); exact rfl; exact rfl; exact rfl; exact rfl; exact rfl; exact hfit; kernel_rfl; intro wx hS; (try simp only [Act.eval, Array.getD_eq_getD_getElem?, List.getElem?_toArray, List.getElem?_cons_succ, List.getElem?_cons_zero, Option.getD_some, List.set_cons_succ, List.set_cons_zero, Value.cells, List.toList_toArray] at hS))
              refine hK_ _ _ (fun h => by cases h) ?_; clear hK_ K_
              (simp only [Act.put, List.setIfInBounds_toArray, List.set_cons_zero, List.set_cons_succ])
              refine wpAnyR_done (by kernel_rfl) ?_ _
              (try simp only [Act.put, Act.eval, Array.getD_eq_getD_getElem?, List.setIfInBounds_toArray, List.getElem?_toArray, List.getElem?_cons_succ, List.getElem?_cons_zero, Option.getD_some, List.set_cons_succ, List.set_cons_zero, Value.cells, List.toList_toArray] at hS)
              replace hS := hS.tail
              go_wp2_with (first | ((with_reducible show WGd ..); (with_reducible apply wpA_guard); exact rfl; skip) | ((with_reducible show WLd ..); (with_reducible apply wpA_load); exact rfl; (first | ((with_reducible apply St.cellI hS); (focus repeat constructor); exact rfl) | assumption); kernel_rfl) | ((with_reducible show WSt ..); (with_reducible apply wpA_store1I hS); exact rfl; (focus repeat constructor); exact rfl; exact rfl; exact rfl; exact rfl; kernel_rfl; intro wx hS; (try simp only [Act.put, List.setIfInBounds_toArray, List.set_cons_zero, List.set_cons_succ]); (try simp only [Act.eval, Array.getD_eq_getD_getElem?, List.getElem?_toArray, List.getElem?_cons_succ, List.getElem?_cons_zero, Option.getD_some, List.set_cons_succ, List.set_cons_zero, Value.cells, List.toList_toArray] at hS)) | ((with_reducible show WBx ..); (with_reducible apply wpA_box hS); exact rfl; exact rfl; intro _ wx hS; (try simp only [Act.put, List.setIfInBounds_toArray, List.set_cons_zero, List.set_cons_succ]); (try simp only [Act.eval, Array.getD_eq_getD_getElem?, List.getElem?_toArray, List.getElem?_cons_succ, List.getElem?_cons_zero, Option.getD_some, List.set_cons_succ, List.set_cons_zero, Value.cells, List.toList_toArray] at hS)))
              obtain ⟨q1, q2, q3, q4, hcl⟩ := HQ.out
              have e1 : Bk.flatMap bcells ++ [Value.int .u8 tb.toNat, Value.int .i64 (clk + k + 1)] = (Bk ++ [(tb, clk + (k : Int) + 1)]).flatMap bcells := by rw [List.flatMap_append]; rfl
              have e2 : Bk.length + 1 = (Bk ++ [(tb, clk + (k : Int) + 1)]).length := by rw [List.length_append]; rfl
              have hrow := row_set1 (f := FileR.cells) FileR.cells_length (l := L.set i ⟨s, ia', ic', Bk⟩) (v := .slice ao2 (Bk.length + 1) cap2) (q := 1) (y := ⟨s, ao2, cap2, Bk ++ [(tb, clk + (k : Int) + 1)]⟩) HZk.out (by rw [List.length_set]; exact q2) (by rw [List.length_set]; exact hcl) (by decide) (by rw [e2]; rfl)
              rw [List.length_set, List.set_set] at hrow
              have hS2 := St.cellsRow hS 1 rfl (n := L.length) (cap := c) (by rw [List.length_set]; exact q1) hrow q3 q4
              simp only [List.set_cons_succ, List.set_cons_zero] at hS2
              rw [e1, e2] at hS2
              rw [HT.out] at hS2
              clear hS
              have hS := hS2
              clear hS2
              go_roundw
              case rel => exact ⟨k + 1, ao2, cap2, by omega, by go_num, by rw [show clk + ((k + 1 : Nat) : Int) = clk + (k : Int) + 1 by omega]; exact hS⟩
              case measure => simp [intOf]; omega
            · obtain rfl : k = t.size := by omega
              go_wp2_with (first | ((with_reducible show WGd ..); (with_reducible apply wpA_guard); exact rfl; skip) | ((with_reducible show WLd ..); (with_reducible apply wpA_load); exact rfl; (first | ((with_reducible apply St.cellI hS); (focus repeat constructor); exact rfl) | assumption); kernel_rfl) | ((with_reducible show WSt ..); (with_reducible apply wpA_store1I hS); exact rfl; (focus repeat constructor); exact rfl; exact rfl; exact rfl; exact rfl; kernel_rfl; intro wx hS; (try simp only [Act.put, List.setIfInBounds_toArray, List.set_cons_zero, List.set_cons_succ]); (try simp only [Act.eval, Array.getD_eq_getD_getElem?, List.getElem?_toArray, List.getElem?_cons_succ, List.getElem?_cons_zero, Option.getD_some, List.set_cons_succ, List.set_cons_zero, Value.cells, List.toList_toArray] at hS)) | ((with_reducible show WBx ..); (with_reducible apply wpA_box hS); exact rfl; exact rfl; intro _ wx hS; (try simp only [Act.put, List.setIfInBounds_toArray, List.set_cons_zero, List.set_cons_succ]); (try simp only [Act.eval, Array.getD_eq_getD_getElem?, List.getElem?_toArray, List.getElem?_cons_succ, List.getElem?_cons_zero, Option.getD_some, List.set_cons_succ, List.set_cons_zero, Value.cells, List.toList_toArray] at hS)))
              go_meet
              rw [List.take_of_length_le (by rw [newB_length]; exact Nat.le_refl _)] at hS
              exact ⟨ia', ic', hS⟩
        clear hS
        obtain ⟨ia', ic', hS⟩ := hcut
        go_wp2_with (first | ((with_reducible show WGd ..); (with_reducible apply wpA_guard); exact rfl; skip) | ((with_reducible show WLd ..); (with_reducible apply wpA_load); exact rfl; (first | ((with_reducible apply St.cellI hS); (focus repeat constructor); exact rfl) | assumption); kernel_rfl) | ((with_reducible show WSt ..); (with_reducible apply wpA_store1I hS); exact rfl; (focus repeat constructor); exact rfl; exact rfl; exact rfl; exact rfl; kernel_rfl; intro wx hS; (try simp only [Act.put, List.setIfInBounds_toArray, List.set_cons_zero, List.set_cons_succ]); (try simp only [Act.eval, Array.getD_eq_getD_getElem?, List.getElem?_toArray, List.getElem?_cons_succ, List.getElem?_cons_zero, Option.getD_some, List.set_cons_succ, List.set_cons_zero, Value.cells, List.toList_toArray] at hS)) | ((with_reducible show WBx ..); (with_reducible apply wpA_box hS); exact rfl; exact rfl; intro _ wx hS; (try simp only [Act.put, List.setIfInBounds_toArray, List.set_cons_zero, List.set_cons_succ]); (try simp only [Act.eval, Array.getD_eq_getD_getElem?, List.getElem?_toArray, List.getElem?_cons_succ, List.getElem?_cons_zero, Option.getD_some, List.set_cons_succ, List.set_cons_zero, Value.cells, List.toList_toArray] at hS)))
        go_ret
        exact ⟨rfl, HB.out _ _ ia' ic' _ (by show St w0 _ (_ :: .row 76 2 _ (L.set i ⟨s, ia', ic', b ++ newB clk t⟩).length c _ :: _); rw [List.length_set]; exact hS)⟩
      · rw [if_neg hfit0]
        have hdd : decide (4194304 - (b.length : Int) < (t.size : Int)) = true := by simp; omega
        go_enter Try.func24, Try.ntmps24
        go_wp2_with (first | ((with_reducible show WGd ..); (with_reducible apply wpA_guard); exact rfl; skip) | (go_at_call 39; with_reducible refine (hc _).mono ?_; rintro _ _ ⟨rfl, rfl⟩) | (go_at_call 40; with_reducible refine (rfind_e hS s (by omega) hf).mono ?_; rintro _ _ ⟨rfl, hS⟩) | ((with_reducible show WLd ..); (with_reducible apply wpA_load); exact rfl; exact (row_elem FileR.cells_length (hS.at_ 1 rfl) HZ.out) 1 _ rfl; kernel_rfl) | ((with_reducible show WLd ..); (with_reducible apply wpA_load); exact rfl; (first | ((with_reducible apply St.cellI hS); (focus repeat constructor); exact rfl) | assumption); kernel_rfl) | ((with_reducible show WSt ..); (with_reducible apply wpA_store1I hS); exact rfl; (focus repeat constructor); exact rfl; exact rfl; exact rfl; exact rfl; kernel_rfl; intro wx hS; (try simp only [Act.put, List.setIfInBounds_toArray, List.set_cons_zero, List.set_cons_succ]); (try simp only [Act.eval, Array.getD_eq_getD_getElem?, List.getElem?_toArray, List.getElem?_cons_succ, List.getElem?_cons_zero, Option.getD_some, List.set_cons_succ, List.set_cons_zero, Value.cells, List.toList_toArray] at hS)) | ((with_reducible show WBx ..); (with_reducible apply wpA_box hS); exact rfl; exact rfl; intro _ wx hS; (try simp only [Act.put, List.setIfInBounds_toArray, List.set_cons_zero, List.set_cons_succ]); (try simp only [Act.eval, Array.getD_eq_getD_getElem?, List.getElem?_toArray, List.getElem?_cons_succ, List.getElem?_cons_zero, Option.getD_some, List.set_cons_succ, List.set_cons_zero, Value.cells, List.toList_toArray] at hS)))
        go_ret
        exact ⟨rfl, HB0.out _ hS⟩
end
end Go.Proofs.Ytbigkonbdnbnpaa
