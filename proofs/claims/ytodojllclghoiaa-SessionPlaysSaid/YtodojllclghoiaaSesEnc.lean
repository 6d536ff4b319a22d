/-
  Encode, walked.
-/
import Derived.Test.YtodojllclghoiaaSesOpen
import Derived.Test.YtodojllclghoiaaFieldV
namespace Go.Proofs.Ytodojllclghoiaa
set_option linter.unusedVariables false
set_option linter.unusedSimpArgs false
open Go.RowKit

theorem WrSt.mk {w0 w : World} {g : Nat} {bs : List UInt8} {ao : Option Addr} {cap : Nat} {R : List Hp} (h : St w0 w (.cells g [.slice ao bs.length cap] 101 :: .row 5 1 ao bs.length cap (bs.map bv) :: R)) : WrSt w0 w g bs R := ⟨ao, cap, h⟩
theorem St.re0 {w0 w : World} {g : Nat} {a b : List Value} {t : TypeId} {H : List Hp} (h : St w0 w (.cells g a t :: H)) (e : a = b) : St w0 w (.cells g b t :: H) := e ▸ h
def flagI (b : Bool) : Int := if b = true then 1 else 0
def repOf (x : OneS) : RepS := if x.said = true then x.reply else rep0
def numsE (i : Nat) (x : OneS) : List Int := [(i : Int) + 1, x.client, x.life, flagI x.isOpen, x.seq, flagI x.said, (repOf x).err]
def sesE (i : Nat) (x : OneS) : List UInt8 := (numsE i x).flatMap intB ++ (uvB (repOf x).token.toNat ++ intB (repOf x).n)
def cliE (σ : SesS) (c : Int) : List UInt8 := intB c ++ (intB (latS σ c).1 ++ intB (latS σ c).2)
def clisE (σ : SesS) : List Int := sortIK (σ.c.map (·.1))
def encS (σ : SesS) : List UInt8 := intB σ.l.length ++ ((σ.l.mapIdx sesE).flatten ++ (intB σ.c.length ++ (clisE σ).flatMap (cliE σ)))

def I64 (n : Int) : Prop := -9223372036854775808 ≤ n ∧ n ≤ 9223372036854775807
structure RepS.ok (r : RepS) : Prop where
  e : I64 r.err
  t : 0 ≤ r.token ∧ r.token < 18446744073709551616
  n : I64 r.n
structure OneS.ok (x : OneS) : Prop where
  c : I64 x.client
  l : I64 x.life
  s : I64 x.seq
  r : x.reply.ok
structure SesS.ok (σ : SesS) : Prop where
  n : σ.l.length ≤ 1000000
  m : σ.c.length ≤ 1000000
  l : ∀ x ∈ σ.l, x.ok
  c : ∀ x ∈ σ.c, I64 x.1 ∧ I64 x.2.1 ∧ I64 x.2.2

theorem repOf_ok {x : OneS} (h : x.ok) : (repOf x).ok := by
  unfold repOf
  split
  · exact h.r
  · exact ⟨by unfold I64; decide, by decide, by unfold I64; decide⟩
theorem intB_len {n : Int} (h : I64 n) : (intB n).length ≤ 10 := uvB_len64 (zig_lt h)
theorem flatI_len : ∀ {ns : List Int}, (∀ n ∈ ns, I64 n) → (ns.flatMap intB).length ≤ 10 * ns.length
  | [], _ => by simp
  | n :: ns, h => by
    have h1 := intB_len (h n (by simp))
    have h2 := flatI_len (ns := ns) (fun m hm => h m (by simp [hm]))
    simp only [List.flatMap_cons, List.length_append, List.length_cons]
    omega
theorem numsE_ok {i : Nat} {x : OneS} (hi : i < 1000000) (h : x.ok) : ∀ n ∈ numsE i x, I64 n := by
  intro n hn
  simp only [numsE, List.mem_cons, List.not_mem_nil, or_false] at hn
  rcases hn with rfl | rfl | rfl | rfl | rfl | rfl | rfl
  · unfold I64; omega
  · exact h.c
  · exact h.l
  · unfold flagI I64; split <;> omega
  · exact h.s
  · unfold flagI I64; split <;> omega
  · exact (repOf_ok h).e
theorem sesE_len {i : Nat} {x : OneS} (hi : i < 1000000) (h : x.ok) : (sesE i x).length ≤ 90 := by
  have h1 := flatI_len (numsE_ok hi h)
  have h2 := intB_len (repOf_ok h).n
  have h3 : (uvB (repOf x).token.toNat).length ≤ 10 := uvB_len64 (by have := (repOf_ok h).t; omega)
  simp only [sesE, List.length_append]
  have h4 : (numsE i x).length = 7 := rfl
  omega
theorem ones_len {l : List OneS} (h : ∀ x ∈ l, x.ok) (hl : l.length ≤ 1000000) : ∀ i : Nat, i ≤ l.length → (((l.mapIdx sesE).take i).flatten).length ≤ 90 * i
  | 0, _ => by simp
  | i + 1, hi => by
    have h1 := ones_len h hl i (by omega)
    have h2 : (l.mapIdx sesE)[i]? = some (sesE i l[i]) := by rw [List.getElem?_mapIdx, List.getElem?_eq_getElem (by omega)]; rfl
    rw [List.take_add_one, h2, List.flatten_append, List.length_append]
    have h3 := sesE_len (i := i) (by omega) (h l[i] (List.getElem_mem _))
    simp only [Option.toList_some, List.flatten_cons, List.flatten_nil, List.append_nil]
    omega
theorem latS_ok {σ : SesS} (ok : σ.ok) (c : Int) : I64 (latS σ c).1 ∧ I64 (latS σ c).2 := by
  unfold latS
  cases h : aget σ.c c with
  | none => unfold I64; decide
  | some v => exact (ok.c _ (aget_mem h)).2
theorem clis_len {σ : SesS} (ok : σ.ok) : ∀ {cs : List Int}, (∀ c ∈ cs, I64 c) → (cs.flatMap (cliE σ)).length ≤ 30 * cs.length
  | [], _ => by simp
  | c :: cs, h => by
    have h1 := intB_len (h c (by simp))
    have h2 := clis_len ok (cs := cs) (fun m hm => h m (by simp [hm]))
    have h3 := intB_len (latS_ok ok c).1
    have h4 := intB_len (latS_ok ok c).2
    simp only [List.flatMap_cons, List.length_append, List.length_cons, cliE]
    omega

theorem flag_c {w0 w : World} {H : List Hp} (hS : St w0 w H) (b : Bool) : Calls Try.prog 37 #[.bool b] w fun e w' => e = .returned (.int .i64 (flagI b)) ∧ St w0 w' H := by
  cases b with
  | true =>
    go_enter Try.func37, Try.ntmps37
    go_wp2_with (first | ((with_reducible show WGd ..); (with_reducible apply wpA_guard); exact rfl; skip) | ((with_reducible show WLd ..); (with_reducible apply wpA_load); exact rfl; (first | ((with_reducible apply St.cellI hS); (focus repeat constructor); exact rfl) | assumption); kernel_rfl) | ((with_reducible show WSt ..); (with_reducible apply wpA_store1I hS); exact rfl; (focus repeat constructor); exact rfl; exact rfl; exact rfl; exact rfl; kernel_rfl; intro wx hS; (try simp only [Act.put, List.setIfInBounds_toArray, List.set_cons_zero, List.set_cons_succ]); (try simp only [Act.eval, Array.getD_eq_getD_getElem?, List.getElem?_toArray, List.getElem?_cons_succ, List.getElem?_cons_zero, Option.getD_some, List.set_cons_succ, List.set_cons_zero, Value.cells, List.toList_toArray] at hS)) | ((with_reducible show WBx ..); (with_reducible apply wpA_box hS); exact rfl; exact rfl; intro _ wx hS; (try simp only [Act.put, List.setIfInBounds_toArray, List.set_cons_zero, List.set_cons_succ]); (try simp only [Act.eval, Array.getD_eq_getD_getElem?, List.getElem?_toArray, List.getElem?_cons_succ, List.getElem?_cons_zero, Option.getD_some, List.set_cons_succ, List.set_cons_zero, Value.cells, List.toList_toArray] at hS)))
    go_ret
    exact ⟨rfl, hS⟩
  | false =>
    go_enter Try.func37, Try.ntmps37
    go_wp2_with (first | ((with_reducible show WGd ..); (with_reducible apply wpA_guard); exact rfl; skip) | ((with_reducible show WLd ..); (with_reducible apply wpA_load); exact rfl; (first | ((with_reducible apply St.cellI hS); (focus repeat constructor); exact rfl) | assumption); kernel_rfl) | ((with_reducible show WSt ..); (with_reducible apply wpA_store1I hS); exact rfl; (focus repeat constructor); exact rfl; exact rfl; exact rfl; exact rfl; kernel_rfl; intro wx hS; (try simp only [Act.put, List.setIfInBounds_toArray, List.set_cons_zero, List.set_cons_succ]); (try simp only [Act.eval, Array.getD_eq_getD_getElem?, List.getElem?_toArray, List.getElem?_cons_succ, List.getElem?_cons_zero, Option.getD_some, List.set_cons_succ, List.set_cons_zero, Value.cells, List.toList_toArray] at hS)) | ((with_reducible show WBx ..); (with_reducible apply wpA_box hS); exact rfl; exact rfl; intro _ wx hS; (try simp only [Act.put, List.setIfInBounds_toArray, List.set_cons_zero, List.set_cons_succ]); (try simp only [Act.eval, Array.getD_eq_getD_getElem?, List.getElem?_toArray, List.getElem?_cons_succ, List.getElem?_cons_zero, Option.getD_some, List.set_cons_succ, List.set_cons_zero, Value.cells, List.toList_toArray] at hS)))
    go_ret
    exact ⟨rfl, hS⟩

theorem wru64_0 (w0 w : World) (R : List Hp) (g : Nat) (bs : List UInt8) (h : WrSt w0 w g bs R) (hb : bs.length ≤ 1000000000000) :
    Calls Try.prog 38 #[.pointer (some ⟨g, 0, none⟩), .int .u64 0] w fun e w' => e = .returned (.tuple #[]) ∧ WrSt w0 w' g (bs ++ uvB 0) R := wru64_c w0 w R g bs 0 h (by decide) hb
theorem lat_look (σ : SesS) (c : Int) : ∃ r : Option Value, (match r with | none => ∀ q ∈ σ.c.map kvC, q.1 ≠ .int .i64 c | some v => ∃ j : Nat, (σ.c.map kvC)[j]? = some (.int .i64 c, v)) ∧ r.getD (.agg #[.int .i64 0, .int .i64 0]) = .agg #[.int .i64 (latS σ c).1, .int .i64 (latS σ c).2] := by
  unfold latS
  cases hq : aget σ.c c with
  | none => exact ⟨none, aget_none int_inj hq, rfl⟩
  | some v => exact ⟨some (evC v), aget_some hq, rfl⟩
theorem clisE_perm (σ : SesS) : (clisE σ).Perm (σ.c.map (·.1)) := List.mergeSort_perm _ _
theorem clisE_ok {σ : SesS} (ok : σ.ok) : ∀ c ∈ clisE σ, I64 c := by
  intro c hc
  obtain ⟨x, hx, rfl⟩ := List.mem_map.1 ((clisE_perm σ).mem_iff.1 hc)
  exact (ok.c x hx).1
theorem opA_seven {P : Program} {K : Act → World → Prop} {gd : Option (Nat × Bool)} {dst : Option Tmp} {ty : TypeId} {pos : String} {after : Array Edge} {a : Act} {Q : Exit → Act → World → Prop} {w0 w : World} {H : List Hp}
    {t e : TypeId} {x0 x1 x2 x3 x4 x5 x6 : Operand} (hS : St w0 w H) {z v0 v1 v2 v3 v4 v5 v6 : Value} {bytes : Nat} (ht : P.underlying t = some (.slice e)) (hinfo : (P.info? e).map (fun i => (i.zero, i.size, i.bytes)) = some (some z, 1, bytes))
    (h0 : a.eval x0 = v0) (h1 : a.eval x1 = v1) (h2 : a.eval x2 = v2) (h3 : a.eval x3 = v3) (h4 : a.eval x4 = v4) (h5 : a.eval x5 = v5) (h6 : a.eval x6 = v6)
    (g0 : v0.cells = #[v0]) (g1 : v1.cells = #[v1]) (g2 : v2.cells = #[v2]) (g3 : v3.cells = #[v3]) (g4 : v4.cells = #[v4]) (g5 : v5.cells = #[v5]) (g6 : v6.cells = #[v6])
    (hK : ∀ g w', St w0 w' (.cells g [v0, v1, v2, v3, v4, v5, v6] e :: H) → K (a.put dst (.slice (some ⟨g, 0, none⟩) 7 7)) w') : Oper.wp P ⟨dst, .buildSlice t 7 #[(0, x0), (1, x1), (2, x2), (3, x3), (4, x4), (5, x5), (6, x6)], ty, pos, after, gd⟩ a w K Q := by
  refine opS_buildSlice t 7 #[(0, x0), (1, x1), (2, x2), (3, x3), (4, x4), (5, x5), (6, x6)] rfl hS ht hinfo (by decide) (by decide) (cs := [v0, v1, v2, v3, v4, v5, v6]) ?_ hK
  rw [show Array.range (7 * 1) = #[0, 1, 2, 3, 4, 5, 6] from rfl]
  simp [Instr.fill, h0, h1, h2, h3, h4, h5, h6, g0, g1, g2, g3, g4, g5, g6]

def preE (σ : SesS) (i : Nat) : List UInt8 := intB σ.l.length ++ ((σ.l.mapIdx sesE).take i).flatten
theorem preE_zero (σ : SesS) : preE σ 0 = intB σ.l.length := by simp [preE]
theorem preE_succ {σ : SesS} {i : Nat} {x : OneS} (h : σ.l[i]? = some x) : preE σ (i + 1) = preE σ i ++ sesE i x := by
  have h2 : (σ.l.mapIdx sesE)[i]? = some (sesE i x) := by rw [List.getElem?_mapIdx, h]; rfl
  unfold preE
  rw [List.take_add_one, h2, List.flatten_append, List.append_assoc]
  simp
theorem preE_len {σ : SesS} (ok : σ.ok) {i : Nat} (hi : i ≤ σ.l.length) : (preE σ i).length ≤ 10 + 90 * i := by
  have h1 := ones_len ok.l ok.n i hi
  have h2 : (intB (σ.l.length : Int)).length ≤ 10 := intB_len (by have := ok.n; unfold I64; omega)
  unfold preE
  rw [List.length_append]
  omega
theorem preE_all (σ : SesS) : preE σ σ.l.length = intB σ.l.length ++ (σ.l.mapIdx sesE).flatten := by
  unfold preE
  rw [List.take_of_length_le (by simp)]

def preC (σ : SesS) (i : Nat) : List UInt8 := preE σ σ.l.length ++ (intB σ.c.length ++ ((clisE σ).take i).flatMap (cliE σ))
theorem preC_zero (σ : SesS) : preC σ 0 = preE σ σ.l.length ++ intB σ.c.length := by simp [preC]
theorem preC_succ {σ : SesS} {i : Nat} {c : Int} (h : (clisE σ)[i]? = some c) : preC σ (i + 1) = preC σ i ++ intB c ++ intB (latS σ c).1 ++ intB (latS σ c).2 := by
  unfold preC
  rw [List.take_add_one, h, List.flatMap_append]
  simp [cliE]
theorem preC_len {σ : SesS} (ok : σ.ok) (i : Nat) : (preC σ i).length ≤ 200000000 := by
  have h1 := preE_len ok (Nat.le_refl σ.l.length)
  have h2 : (intB (σ.c.length : Int)).length ≤ 10 := intB_len (by have := ok.m; unfold I64; omega)
  have h3 := clis_len ok (cs := (clisE σ).take i) (fun c hc => clisE_ok ok c (List.mem_of_mem_take hc))
  have h4 : ((clisE σ).take i).length ≤ σ.c.length := by
    have := (clisE_perm σ).length_eq
    rw [List.length_map] at this
    rw [List.length_take]; omega
  have := ok.n
  have := ok.m
  unfold preC
  rw [List.length_append, List.length_append]
  omega
theorem preC_all (σ : SesS) : preC σ (clisE σ).length = encS σ := by
  unfold preC encS
  rw [List.take_length, preE_all, List.append_assoc]

set_option maxRecDepth 100000 in
set_option maxHeartbeats 4000000 in
theorem enc_c (w0 w : World) (R : List Hp) (p : Nat) (σ : SesS) (h : SesSt w0 w p σ R) (ok : σ.ok) : Calls Try.prog 16 #[.pointer (some ⟨p, 0, none⟩)] w fun e w' =>
    e = .returned (.string ⟨(encS σ).toArray⟩) ∧ SesSt w0 w' p σ R := by
  obtain ⟨ml, mc, Z, hZ, hS⟩ := h
  have hlen : (Z.mapIdx kvI).length = σ.l.length := by rw [List.length_mapIdx, ← hZ, List.length_map]
  have hlenC : (σ.c.map kvC).length = σ.c.length := List.length_map _
  have hn := ok.n
  have hm := ok.m
  have hb0 : (intB (σ.l.length : Int)).length ≤ 10 := intB_len (by unfold I64; omega)
  have HZ := Lib.hid (And.intro hZ hlen)
  have OK := Lib.hid ok
  clear hZ ok
  go_enter Try.func16, Try.ntmps16
  go_upto_block 0 with (first | ((with_reducible show WGd ..); (with_reducible apply wpA_guard); exact rfl; skip) | (go_at_call 35; (with_reducible refine (wrnew_c w0 _ _ hS).mono ?_); rintro _ _ ⟨gw, rfl, aw, cw, hS⟩) | (go_at_call 36; (with_reducible refine (wrint_c w0 _ _ gw _ _ (WrSt.mk hS) (by omega) (by simp)).mono ?_); rintro _ _ ⟨rfl, aw, cw, hS⟩) | ((with_reducible show WLn ..); (with_reducible apply wpA_lenMap hS 3); exact rfl; exact rfl; exact Try.underlying59) | ((with_reducible show WLd ..); (with_reducible apply wpA_load); exact rfl; (first | ((with_reducible apply St.cellI hS); (focus repeat constructor); exact rfl) | assumption); kernel_rfl) | ((with_reducible show WSt ..); (with_reducible apply wpA_store1I hS); exact rfl; (focus repeat constructor); exact rfl; exact rfl; exact rfl; exact rfl; kernel_rfl; intro wx hS; (try simp only [Act.put, List.setIfInBounds_toArray, List.set_cons_zero, List.set_cons_succ]); (try simp only [Act.eval, Array.getD_eq_getD_getElem?, List.getElem?_toArray, List.getElem?_cons_succ, List.getElem?_cons_zero, Option.getD_some, List.set_cons_succ, List.set_cons_zero, Value.cells, List.toList_toArray] at hS)) | ((with_reducible show WBx ..); (with_reducible apply wpA_box hS); exact rfl; exact rfl; intro _ wx hS; (try simp only [Act.put, List.setIfInBounds_toArray, List.set_cons_zero, List.set_cons_succ]); (try simp only [Act.eval, Array.getD_eq_getD_getElem?, List.getElem?_toArray, List.getElem?_cons_succ, List.getElem?_cons_zero, Option.getD_some, List.set_cons_succ, List.set_cons_zero, Value.cells, List.toList_toArray] at hS)))
  have hW := WrSt.mk hS
  rw [List.nil_append, ← preE_zero] at hW
  clear hS
  go_cut [] (fun wr => WrSt w0 wr gw (preE σ σ.l.length) (sc p ml mc :: .mp ml (.int .i64) (Z.mapIdx kvI) :: .mp mc (.int .i64) (σ.c.map kvC) :: (Z.flatMap shp ++ R)))
  case first =>
    go_wp2_with (first | ((with_reducible show WGd ..); (with_reducible apply wpA_guard); exact rfl; skip) | ((with_reducible show WLd ..); (with_reducible apply wpA_load); exact rfl; (first | ((with_reducible apply St.cellI hS); (focus repeat constructor); exact rfl) | assumption); kernel_rfl) | ((with_reducible show WSt ..); (with_reducible apply wpA_store1I hS); exact rfl; (focus repeat constructor); exact rfl; exact rfl; exact rfl; exact rfl; kernel_rfl; intro wx hS; (try simp only [Act.put, List.setIfInBounds_toArray, List.set_cons_zero, List.set_cons_succ]); (try simp only [Act.eval, Array.getD_eq_getD_getElem?, List.getElem?_toArray, List.getElem?_cons_succ, List.getElem?_cons_zero, Option.getD_some, List.set_cons_succ, List.set_cons_zero, Value.cells, List.toList_toArray] at hS)) | ((with_reducible show WBx ..); (with_reducible apply wpA_box hS); exact rfl; exact rfl; intro _ wx hS; (try simp only [Act.put, List.setIfInBounds_toArray, List.set_cons_zero, List.set_cons_succ]); (try simp only [Act.eval, Array.getD_eq_getD_getElem?, List.getElem?_toArray, List.getElem?_cons_succ, List.getElem?_cons_zero, Option.getD_some, List.set_cons_succ, List.set_cons_zero, Value.cells, List.toList_toArray] at hS)))
    go_loopw [4] (fun v wr => ∃ i : Nat, i ≤ σ.l.length ∧ v = .int .i64 ((i : Int) + 1) ∧ WrSt w0 wr gw (preE σ i) (sc p ml mc :: .mp ml (.int .i64) (Z.mapIdx kvI) :: .mp mc (.int .i64) (σ.c.map kvC) :: (Z.flatMap shp ++ R))) (fun v _ => σ.l.length + 1 - (intOf v).toNat)
    case atStart => exact ⟨0, Nat.zero_le _, rfl, hW⟩
    case round =>
      clear hW
      obtain ⟨i, hi, rfl, hW⟩ := hrel
      by_cases hlt : i < σ.l.length
      · obtain ⟨⟨blk, x⟩, hz⟩ : ∃ z, Z[i]? = some z := ⟨_, List.getElem?_eq_getElem (by rw [← HZ.out.1, List.length_map] at hlt; exact hlt)⟩
        have hx : σ.l[i]? = some x := by rw [← HZ.out.1, List.getElem?_map, hz]; rfl
        have hxo := OK.out.l x (List.mem_of_getElem? hx)
        have hpl := preE_len OK.out hi
        have hps := preE_succ hx
        have hput : ∀ wr A, St w0 wr (A ++ (sc p ml mc :: .mp ml (.int .i64) (Z.mapIdx kvI) :: .mp mc (.int .i64) (σ.c.map kvC) :: oneC blk x :: ((Z.eraseIdx i).flatMap shp ++ R))) → St w0 wr (A ++ (sc p ml mc :: .mp ml (.int .i64) (Z.mapIdx kvI) :: .mp mc (.int .i64) (σ.c.map kvC) :: (Z.flatMap shp ++ R))) := fun wr A h => by
          have h2 := St.putIn (f := shp) (A := A ++ [sc p ml mc, .mp ml (.int .i64) (Z.mapIdx kvI), .mp mc (.int .i64) (σ.c.map kvC)]) (R := R) (z' := (blk, x)) hz (by simpa using h)
          rw [set_same hz] at h2
          simpa using h2
        obtain ⟨aw, cw, hS⟩ := hW
        replace hS := St.takeOut (f := shp) (A := [_, _, _, _, _]) hz hS
        have HPUT := Lib.hid hput
        have HPS := Lib.hid hps
        have HX := Lib.hid hx
        have HXO := Lib.hid hxo
        have hkv : ∃ j : Nat, (Z.mapIdx kvI)[j]? = some (.int .i64 ((i : Int) + 1), .pointer (some ⟨blk, 0, none⟩)) := ⟨i, by rw [List.getElem?_mapIdx, hz]; rfl⟩
        have HKV := Lib.hid hkv
        clear hput hps hx hz hkv
        obtain ⟨⟨c1, c2⟩, ⟨l1, l2⟩, ⟨s1, s2⟩, ⟨⟨e1, e2⟩, ⟨t1, t2⟩, ⟨n1, n2⟩⟩⟩ := hxo
        obtain ⟨client, life, op, seq, said, rs, rq, re, rt, rn⟩ := x
        simp only at c1 c2 l1 l2 s1 s2 e1 e2 t1 t2 n1 n2
        obtain ⟨tk, rfl⟩ : ∃ tk : Nat, rt = (tk : Int) := ⟨rt.toNat, by omega⟩
        have HT : Hid (tk < 18446744073709551616) := Lib.hid (by omega)
        clear t1 t2
        simp only [shp, oneC, OneS.cells, List.cons_append, List.nil_append] at hS
        cases said with
        | true =>
          go_upto_region 12 with (first | ((with_reducible show WGd ..); (with_reducible apply wpA_guard); exact rfl; skip) | ((with_reducible show WLn ..); (with_reducible apply wpA_lenMap hS 3); exact rfl; exact rfl; exact Try.underlying59) | ((with_reducible apply wpA_lookup hS 3 (z := .pointer none) (r := some (.pointer (some ⟨blk, 0, none⟩)))); exact rfl; exact rfl; exact rfl; exact Try.underlying59; exact Try.underlying3; exact rfl; kernel_rfl; exact HKV.out; dsimp only [Option.getD, Option.isSome, if_true, Bool.false_eq_true, if_false]) | ((first | ((with_reducible show WAl ..); (with_reducible apply wpA_alloc (t := 30) hS (v := .agg #[.int .i64 0, .int .i64 0, .int .i64 0, .int .u64 0, .int .i64 0])); kernel_rfl; exact rfl; intro g6 wx hS) | ((with_reducible show WBx ..); (with_reducible apply wpA_box hS); exact rfl; exact rfl; intro _ wx hS)); (try simp only [Act.put, List.setIfInBounds_toArray, List.set_cons_zero, List.set_cons_succ]); (try simp only [Act.eval, Array.getD_eq_getD_getElem?, List.getElem?_toArray, List.getElem?_cons_succ, List.getElem?_cons_zero, Option.getD_some, List.set_cons_succ, List.set_cons_zero, Value.cells, List.toList_toArray] at hS)) | ((with_reducible show WLd ..); (with_reducible apply wpA_loadN (t := 30)); exact rfl; ((with_reducible apply Hp.rangeI hS (n := 5)); (focus repeat constructor)); kernel_rfl; kernel_rfl; (try simp only [Act.put, List.setIfInBounds_toArray, List.set_cons_zero, List.set_cons_succ])) | ((with_reducible show WSt ..); (with_reducible apply wpA_storeI hS); exact rfl; (focus repeat constructor); exact rfl; exact rfl; exact rfl; exact (Nat.le_of_ble_eq_true rfl); kernel_rfl; intro wx hS; (try simp only [Act.put, List.setIfInBounds_toArray, List.set_cons_zero, List.set_cons_succ]); (try simp only [Act.eval, Array.getD_eq_getD_getElem?, List.getElem?_toArray, List.getElem?_cons_succ, List.getElem?_cons_zero, Option.getD_some, List.set_cons_succ, List.set_cons_zero, Value.cells, List.toList_toArray] at hS); (try simp only [List.take_zero, List.take_succ_cons, List.nil_append, List.cons_append, List.length_cons, List.length_nil, Nat.reduceAdd, Nat.zero_add, List.drop_succ_cons, List.drop_zero, List.drop_nil, List.append_nil] at hS)) | ((with_reducible show WLd ..); (with_reducible apply wpA_load); exact rfl; (first | ((with_reducible apply St.cellI hS); (focus repeat constructor); exact rfl) | assumption); kernel_rfl) | ((with_reducible show WSt ..); (with_reducible apply wpA_store1I hS); exact rfl; (focus repeat constructor); exact rfl; exact rfl; exact rfl; exact rfl; kernel_rfl; intro wx hS; (try simp only [Act.put, List.setIfInBounds_toArray, List.set_cons_zero, List.set_cons_succ]); (try simp only [Act.eval, Array.getD_eq_getD_getElem?, List.getElem?_toArray, List.getElem?_cons_succ, List.getElem?_cons_zero, Option.getD_some, List.set_cons_succ, List.set_cons_zero, Value.cells, List.toList_toArray] at hS)))
          refine wp_region_A2 (fun _ h => St.sub h (.cons_cons _ (.cons _ (.cons _ (.cons _ (.cons _ (.cons _ (.cons_cons _ (List.nil_sublist _))))))))) hS (by kernel_rfl) (fun _ hR hS => ?_)
          simp only [List.length_cons, List.length_nil, Nat.reduceAdd]
          refine takeAP_val (i := 0) ?_ rfl (by exact rfl) (by kernel_rfl) (fun _ _ _ h => h) ?_ hR (fun hR => ?_)
          rotate_left
          · intro w; go_simp; (first | done | (with_reducible rfl) | (refine (if_pos ?_).trans ?_; (focus omega); with_reducible rfl) | skip)
          (simp only [Act.put, List.setIfInBounds_toArray, List.set_cons_zero, List.set_cons_succ])
          refine takeAP_val (i := 1) ?_ rfl (by exact rfl) (by kernel_rfl) (fun _ _ _ h => h) ?_ hR (fun hR => ?_)
          rotate_left
          · intro w; go_simp; (first | done | (with_reducible rfl) | (refine (if_pos ?_).trans ?_; (focus omega); with_reducible rfl) | skip)
          (simp only [Act.put, List.setIfInBounds_toArray, List.set_cons_zero, List.set_cons_succ])
          refine takeAP_val (i := 2) ?_ rfl (by exact rfl) (by kernel_rfl) (fun _ _ _ h => h) ?_ hR (fun hR => ?_)
          rotate_left
          · intro w; go_simp; (first | done | (with_reducible rfl) | (refine (if_pos ?_).trans ?_; (focus omega); with_reducible rfl) | skip)
          (simp only [Act.put, List.setIfInBounds_toArray, List.set_cons_zero, List.set_cons_succ])
          refine takeAP_val (i := 3) ?_ rfl (by exact rfl) (by kernel_rfl) (fun _ _ _ h => h) ?_ hR (fun hR => ?_)
          rotate_left
          · intro w; go_simp; (first | done | (with_reducible rfl) | (refine (if_pos ?_).trans ?_; (focus omega); with_reducible rfl) | skip)
          (simp only [Act.put, List.setIfInBounds_toArray, List.set_cons_zero, List.set_cons_succ])
          refine takeA_load (i := 4) [] rfl (by exact rfl) (by kernel_rfl) (fun _ _ _ h => h) (by decide) rfl (fun w hS => by (first | ((with_reducible apply St.cellI hS); (focus repeat constructor); exact rfl) | assumption)) (by kernel_rfl) hR (fun hR => ?_)
          (simp only [Act.put, List.setIfInBounds_toArray, List.set_cons_zero, List.set_cons_succ])
          refine takeAP_val (i := 5) ?_ rfl (by exact rfl) (by kernel_rfl) (fun _ _ _ h => h) ?_ hR (fun hR => ?_)
          rotate_left
          · intro w; go_simp; (first | done | (with_reducible rfl) | (refine (if_pos ?_).trans ?_; (focus omega); with_reducible rfl) | skip)
          (simp only [Act.put, List.setIfInBounds_toArray, List.set_cons_zero, List.set_cons_succ])
          refine takeAP_val (i := 6) ?_ rfl (by exact rfl) (by kernel_rfl) (fun _ _ _ h => h) ?_ hR (fun hR => ?_)
          rotate_left
          · intro w; go_simp; (first | done | (with_reducible rfl) | (refine (if_pos ?_).trans ?_; (focus omega); with_reducible rfl) | skip)
          (simp only [Act.put, List.setIfInBounds_toArray, List.set_cons_zero, List.set_cons_succ])
          refine takeAP_val (i := 7) ?_ rfl (by exact rfl) (by kernel_rfl) (fun _ _ _ h => h) ?_ hR (fun hR => ?_)
          rotate_left
          · intro w; go_simp; (first | done | (with_reducible rfl) | (refine (if_pos ?_).trans ?_; (focus omega); with_reducible rfl) | skip)
          (simp only [Act.put, List.setIfInBounds_toArray, List.set_cons_zero, List.set_cons_succ])
          refine takeA_load (i := 8) [] rfl (by exact rfl) (by kernel_rfl) (fun _ _ _ h => h) (by decide) rfl (fun w hS => by (first | ((with_reducible apply St.cellI hS); (focus repeat constructor); exact rfl) | assumption)) (by kernel_rfl) hR (fun hR => ?_)
          (simp only [Act.put, List.setIfInBounds_toArray, List.set_cons_zero, List.set_cons_succ])
          refine takeAP_val (i := 9) ?_ rfl (by exact rfl) (by kernel_rfl) (fun _ _ _ h => h) ?_ hR (fun hR => ?_)
          rotate_left
          · intro w; go_simp; (first | done | (with_reducible rfl) | (refine (if_pos ?_).trans ?_; (focus omega); with_reducible rfl) | skip)
          (simp only [Act.put, List.setIfInBounds_toArray, List.set_cons_zero, List.set_cons_succ])
          refine takeAP_val (i := 10) ?_ rfl (by exact rfl) (by kernel_rfl) (fun _ _ _ h => h) ?_ hR (fun hR => ?_)
          rotate_left
          · intro w; go_simp; (first | done | (with_reducible rfl) | (refine (if_pos ?_).trans ?_; (focus omega); with_reducible rfl) | skip)
          (simp only [Act.put, List.setIfInBounds_toArray, List.set_cons_zero, List.set_cons_succ])
          refine takeAP_val (i := 11) ?_ rfl (by exact rfl) (by kernel_rfl) (fun _ _ _ h => h) ?_ hR (fun hR => ?_)
          rotate_left
          · intro w; go_simp; (first | done | (with_reducible rfl) | (refine (if_pos ?_).trans ?_; (focus omega); with_reducible rfl) | skip)
          (simp only [Act.put, List.setIfInBounds_toArray, List.set_cons_zero, List.set_cons_succ])
          refine takeA_load (i := 12) [] rfl (by exact rfl) (by kernel_rfl) (fun _ _ _ h => h) (by decide) rfl (fun w hS => by (first | ((with_reducible apply St.cellI hS); (focus repeat constructor); exact rfl) | assumption)) (by kernel_rfl) hR (fun hR => ?_)
          (simp only [Act.put, List.setIfInBounds_toArray, List.set_cons_zero, List.set_cons_succ])
          refine takeAP_val (i := 14) ?_ rfl (by exact rfl) (by kernel_rfl) (fun _ _ _ h => h) ?_ hR (fun hR => ?_)
          rotate_left
          · intro w; go_simp; (first | done | (with_reducible rfl) | (refine (if_pos ?_).trans ?_; (focus omega); with_reducible rfl) | skip)
          (simp only [Act.put, List.setIfInBounds_toArray, List.set_cons_zero, List.set_cons_succ])
          refine takeAP_val (i := 15) ?_ rfl (by exact rfl) (by kernel_rfl) (fun _ _ _ h => h) ?_ hR (fun hR => ?_)
          rotate_left
          · intro w; go_simp; (first | done | (with_reducible rfl) | (refine (if_pos ?_).trans ?_; (focus omega); with_reducible rfl) | skip)
          (simp only [Act.put, List.setIfInBounds_toArray, List.set_cons_zero, List.set_cons_succ])
          refine takeAP_val (i := 16) ?_ rfl (by exact rfl) (by kernel_rfl) (fun _ _ _ h => h) ?_ hR (fun hR => ?_)
          rotate_left
          · intro w; go_simp; (first | done | (with_reducible rfl) | (refine (if_pos ?_).trans ?_; (focus omega); with_reducible rfl) | skip)
          (simp only [Act.put, List.setIfInBounds_toArray, List.set_cons_zero, List.set_cons_succ])
          refine takeA_load (i := 17) [] rfl (by exact rfl) (by kernel_rfl) (fun _ _ _ h => h) (by decide) rfl (fun w hS => by (first | ((with_reducible apply St.cellI hS); (focus repeat constructor); exact rfl) | assumption)) (by kernel_rfl) hR (fun hR => ?_)
          (simp only [Act.put, List.setIfInBounds_toArray, List.set_cons_zero, List.set_cons_succ])
          refine takeAP_val (i := 18) ?_ rfl (by exact rfl) (by kernel_rfl) (fun _ _ _ h => h) ?_ hR (fun hR => ?_)
          rotate_left
          · intro w; go_simp; (first | done | (with_reducible rfl) | (refine (if_pos ?_).trans ?_; (focus omega); with_reducible rfl) | skip)
          (simp only [Act.put, List.setIfInBounds_toArray, List.set_cons_zero, List.set_cons_succ])
          refine takeAP_val (i := 19) ?_ rfl (by exact rfl) (by kernel_rfl) (fun _ _ _ h => h) ?_ hR (fun hR => ?_)
          rotate_left
          · intro w; go_simp; (first | done | (with_reducible rfl) | (refine (if_pos ?_).trans ?_; (focus omega); with_reducible rfl) | skip)
          (simp only [Act.put, List.setIfInBounds_toArray, List.set_cons_zero, List.set_cons_succ])
          refine takeAP_val (i := 20) ?_ rfl (by exact rfl) (by kernel_rfl) (fun _ _ _ h => h) ?_ hR (fun hR => ?_)
          rotate_left
          · intro w; go_simp; (first | done | (with_reducible rfl) | (refine (if_pos ?_).trans ?_; (focus omega); with_reducible rfl) | skip)
          (simp only [Act.put, List.setIfInBounds_toArray, List.set_cons_zero, List.set_cons_succ])
          refine takeA_load (i := 21) [] rfl (by exact rfl) (by kernel_rfl) (fun _ _ _ h => h) (by decide) rfl (fun w hS => by (first | ((with_reducible apply St.cellI hS); (focus repeat constructor); exact rfl) | assumption)) (by kernel_rfl) hR (fun hR => ?_)
          (simp only [Act.put, List.setIfInBounds_toArray, List.set_cons_zero, List.set_cons_succ])
          refine takeAP_val (i := 23) ?_ rfl (by exact rfl) (by kernel_rfl) (fun _ _ _ h => h) ?_ hR (fun hR => ?_)
          rotate_left
          · intro w; go_simp; (first | done | (with_reducible rfl) | (refine (if_pos ?_).trans ?_; (focus omega); with_reducible rfl) | skip)
          (simp only [Act.put, List.setIfInBounds_toArray, List.set_cons_zero, List.set_cons_succ])
          refine takeA_load (i := 24) [] rfl (by exact rfl) (by kernel_rfl) (fun _ _ _ h => h) (by decide) rfl (fun w hS => by (first | ((with_reducible apply St.cellI hS); (focus repeat constructor); exact rfl) | assumption)) (by kernel_rfl) hR (fun hR => ?_)
          (simp only [Act.put, List.setIfInBounds_toArray, List.set_cons_zero, List.set_cons_succ])
          refine takeAP_val (i := 27) ?_ rfl (by exact rfl) (by kernel_rfl) (fun _ _ _ h => h) ?_ hR (fun hR => ?_)
          rotate_left
          · intro w; go_simp; (first | done | (with_reducible rfl) | (refine (if_pos ?_).trans ?_; (focus omega); with_reducible rfl) | skip)
          (simp only [Act.put, List.setIfInBounds_toArray, List.set_cons_zero, List.set_cons_succ])
          refine oneA (i := 13) (by kernel_rfl) rfl (by exact rfl) (fun K_ hK_ => ?_)
          (apply opA_call (f := 37) Try.func37 (by kernel_rfl); (focus ((try simp only [List.map_toArray, List.map_cons, List.map_nil, Act.eval, Array.getD_eq_getD_getElem?, List.getElem?_toArray, List.getElem?_cons_succ, List.getElem?_cons_zero, Option.getD_some]); exact rfl)); (focus (with_reducible exact (flag_c hS op))); rintro _ _ ⟨rfl, hS⟩; refine ⟨_, rfl, ?_⟩; skip)
          refine hK_ _ _ (id ((St.sub hS (.cons_cons _ (.cons _ (.cons _ (.cons _ (.cons _ (.cons _ (.cons_cons _ (List.nil_sublist _))))))))))) ?_; clear hK_ K_
          (simp only [Act.put, List.setIfInBounds_toArray, List.set_cons_zero, List.set_cons_succ])
          refine oneA (i := 22) (by kernel_rfl) rfl (by exact rfl) (fun K_ hK_ => ?_)
          (apply opA_call (f := 37) Try.func37 (by kernel_rfl); (focus ((try simp only [List.map_toArray, List.map_cons, List.map_nil, Act.eval, Array.getD_eq_getD_getElem?, List.getElem?_toArray, List.getElem?_cons_succ, List.getElem?_cons_zero, Option.getD_some]); exact rfl)); (focus (with_reducible exact (flag_c hS true))); rintro _ _ ⟨rfl, hS⟩; refine ⟨_, rfl, ?_⟩; skip)
          refine hK_ _ _ (id ((St.sub hS (.cons_cons _ (.cons _ (.cons _ (.cons _ (.cons _ (.cons _ (.cons_cons _ (List.nil_sublist _))))))))))) ?_; clear hK_ K_
          (simp only [Act.put, List.setIfInBounds_toArray, List.set_cons_zero, List.set_cons_succ])
          refine oneA (i := 25) (by kernel_rfl) rfl (by exact rfl) (fun K_ hK_ => ?_)
          ((with_reducible apply opA_seven hS (z := .int .i64 0) (bytes := 8)); exact Try.underlying22; kernel_rfl; exact rfl; exact rfl; exact rfl; exact rfl; exact rfl; exact rfl; exact rfl; exact rfl; exact rfl; exact rfl; exact rfl; exact rfl; exact rfl; exact rfl; intro g7 wx hS)
          refine hK_ _ _ (id ((St.sub hS (.cons _ (.cons_cons _ (.cons _ (.cons _ (.cons _ (.cons _ (.cons _ (.cons_cons _ (List.nil_sublist _)))))))))))) ?_; clear hK_ K_
          (simp only [Act.put, List.setIfInBounds_toArray, List.set_cons_zero, List.set_cons_succ])
          refine takeAP_val (i := 26) ?_ rfl (by exact rfl) (by kernel_rfl) (fun _ _ _ h => h) ?_ (id (St.sub hS (.cons _ (.cons_cons _ (.cons _ (.cons _ (.cons _ (.cons _ (.cons _ (.cons_cons _ (List.nil_sublist _))))))))))) (fun hR => ?_)
          rotate_left
          · intro w; go_simp; (first | done | (with_reducible rfl) | (refine (if_pos ?_).trans ?_; (focus omega); with_reducible rfl) | skip)
          (simp only [Act.put, List.setIfInBounds_toArray, List.set_cons_zero, List.set_cons_succ])
          refine wpAnyR_done (by kernel_rfl) ?_ _
          obtain ⟨ns, hns⟩ : ∃ ns : List Int, ns = [(i : Int) + 1, client, life, flagI op, seq, flagI true, re] := ⟨_, rfl⟩
          replace hS := hS.re0 (b := ns.map (Value.int .i64)) (by rw [hns]; rfl)
          ((try simp only [List.set_cons_succ, List.set_cons_zero] at hS); replace hS := hS.sel [2, 3, 0, 1, 4, 5, 6, 7] 8 (by decide) (by decide) (by simp); simp only [List.filterMap_cons, List.filterMap_nil, List.getElem?_cons_succ, List.getElem?_cons_zero, List.drop_succ_cons, List.drop_zero, List.cons_append, List.nil_append] at hS)
          have hW7 := WrSt.mk hS
          clear hS
          have hnl : ns.length = 7 := by rw [hns]; rfl
          have hno : ∀ n ∈ ns, I64 n := by rw [hns]; exact numsE_ok (i := i) (x := ⟨client, life, op, seq, true, rs, rq, re, tk, rn⟩) (by omega) HXO.out
          have HNS := Lib.hid hns
          clear hns
          go_upto_block 2 with (first | ((with_reducible show WGd ..); (with_reducible apply wpA_guard); exact rfl; skip) | ((with_reducible show WLd ..); (with_reducible apply wpA_load); exact rfl; (first | ((with_reducible apply St.cellI hS); (focus repeat constructor); exact rfl) | assumption); kernel_rfl) | ((with_reducible show WSt ..); (with_reducible apply wpA_store1I hS); exact rfl; (focus repeat constructor); exact rfl; exact rfl; exact rfl; exact rfl; kernel_rfl; intro wx hS; (try simp only [Act.put, List.setIfInBounds_toArray, List.set_cons_zero, List.set_cons_succ]); (try simp only [Act.eval, Array.getD_eq_getD_getElem?, List.getElem?_toArray, List.getElem?_cons_succ, List.getElem?_cons_zero, Option.getD_some, List.set_cons_succ, List.set_cons_zero, Value.cells, List.toList_toArray] at hS)) | ((with_reducible show WBx ..); (with_reducible apply wpA_box hS); exact rfl; exact rfl; intro _ wx hS; (try simp only [Act.put, List.setIfInBounds_toArray, List.set_cons_zero, List.set_cons_succ]); (try simp only [Act.eval, Array.getD_eq_getD_getElem?, List.getElem?_toArray, List.getElem?_cons_succ, List.getElem?_cons_zero, Option.getD_some, List.set_cons_succ, List.set_cons_zero, Value.cells, List.toList_toArray] at hS)))
          go_cut [] (fun wr => WrSt w0 wr gw (preE σ i ++ ns.flatMap intB) (.cells g7 (ns.map (Value.int .i64)) 3 :: .cells g6 [.int .i64 rs, .int .i64 rq, .int .i64 re, .int .u64 tk, .int .i64 rn] 30 :: sc p ml mc :: .mp ml (.int .i64) (Z.mapIdx kvI) :: .mp mc (.int .i64) (σ.c.map kvC) :: oneC blk ⟨client, life, op, seq, true, rs, rq, re, tk, rn⟩ :: ((Z.eraseIdx i).flatMap shp ++ R)))
          case first =>
            go_wp2_with (first | ((with_reducible show WGd ..); (with_reducible apply wpA_guard); exact rfl; skip) | ((with_reducible show WLd ..); (with_reducible apply wpA_load); exact rfl; (first | ((with_reducible apply St.cellI hS); (focus repeat constructor); exact rfl) | assumption); kernel_rfl) | ((with_reducible show WSt ..); (with_reducible apply wpA_store1I hS); exact rfl; (focus repeat constructor); exact rfl; exact rfl; exact rfl; exact rfl; kernel_rfl; intro wx hS; (try simp only [Act.put, List.setIfInBounds_toArray, List.set_cons_zero, List.set_cons_succ]); (try simp only [Act.eval, Array.getD_eq_getD_getElem?, List.getElem?_toArray, List.getElem?_cons_succ, List.getElem?_cons_zero, Option.getD_some, List.set_cons_succ, List.set_cons_zero, Value.cells, List.toList_toArray] at hS)) | ((with_reducible show WBx ..); (with_reducible apply wpA_box hS); exact rfl; exact rfl; intro _ wx hS; (try simp only [Act.put, List.setIfInBounds_toArray, List.set_cons_zero, List.set_cons_succ]); (try simp only [Act.eval, Array.getD_eq_getD_getElem?, List.getElem?_toArray, List.getElem?_cons_succ, List.getElem?_cons_zero, Option.getD_some, List.set_cons_succ, List.set_cons_zero, Value.cells, List.toList_toArray] at hS)))
            go_loopw [71] (fun v wr => ∃ k : Nat, k ≤ 7 ∧ v = .int .i64 k ∧ WrSt w0 wr gw (preE σ i ++ (ns.take k).flatMap intB) (.cells g7 (ns.map (Value.int .i64)) 3 :: .cells g6 [.int .i64 rs, .int .i64 rq, .int .i64 re, .int .u64 tk, .int .i64 rn] 30 :: sc p ml mc :: .mp ml (.int .i64) (Z.mapIdx kvI) :: .mp mc (.int .i64) (σ.c.map kvC) :: oneC blk ⟨client, life, op, seq, true, rs, rq, re, tk, rn⟩ :: ((Z.eraseIdx i).flatMap shp ++ R))) (fun v _ => 7 - (intOf v).toNat)
            case atStart => exact ⟨0, Nat.zero_le _, rfl, by rw [List.take_zero, List.flatMap_nil, List.append_nil]; exact hW7⟩
            case round =>
              clear hW7
              obtain ⟨k, hk, rfl, hW7⟩ := hrel
              by_cases hk7 : k < 7
              · obtain ⟨m, hm7⟩ : ∃ m, ns[k]? = some m := ⟨_, List.getElem?_eq_getElem (by omega)⟩
                obtain ⟨m1, m2⟩ := hno m (List.mem_of_getElem? hm7)
                have hcell : (ns.map (Value.int .i64))[k]? = some (.int .i64 m) := by rw [List.getElem?_map, hm7]; rfl
                have hkl := flatI_len (ns := ns.take k) (fun n hn => hno n (List.mem_of_mem_take hn))
                have hkt : (ns.take k).length ≤ 7 := by rw [List.length_take]; omega
                have hsu : preE σ i ++ (ns.take (k + 1)).flatMap intB = preE σ i ++ (ns.take k).flatMap intB ++ intB m := by rw [List.take_add_one, hm7, List.flatMap_append]; simp
                have HSU := Lib.hid hsu
                have HC := Lib.hid hcell
                obtain ⟨aw, cw, hS⟩ := hW7
                clear hcell hm7 hsu hnl
                go_wp2_with (first | ((with_reducible show WGd ..); (with_reducible apply wpA_guard); exact rfl; skip) | ((with_reducible show WLd ..); (with_reducible apply wpA_load); exact rfl; exact hS.cell 2 rfl k HC.out; kernel_rfl) | (go_at_call 36; (with_reducible refine (wrint_c w0 _ _ gw _ _ (WrSt.mk hS) (by first | omega | (constructor <;> omega)) (by (try simp only [List.length_append]); omega)).mono ?_); rintro _ _ ⟨rfl, aw, cw, hS⟩) | ((with_reducible show WLd ..); (with_reducible apply wpA_load); exact rfl; (first | ((with_reducible apply St.cellI hS); (focus repeat constructor); exact rfl) | assumption); kernel_rfl) | ((with_reducible show WSt ..); (with_reducible apply wpA_store1I hS); exact rfl; (focus repeat constructor); exact rfl; exact rfl; exact rfl; exact rfl; kernel_rfl; intro wx hS; (try simp only [Act.put, List.setIfInBounds_toArray, List.set_cons_zero, List.set_cons_succ]); (try simp only [Act.eval, Array.getD_eq_getD_getElem?, List.getElem?_toArray, List.getElem?_cons_succ, List.getElem?_cons_zero, Option.getD_some, List.set_cons_succ, List.set_cons_zero, Value.cells, List.toList_toArray] at hS)) | ((with_reducible show WBx ..); (with_reducible apply wpA_box hS); exact rfl; exact rfl; intro _ wx hS; (try simp only [Act.put, List.setIfInBounds_toArray, List.set_cons_zero, List.set_cons_succ]); (try simp only [Act.eval, Array.getD_eq_getD_getElem?, List.getElem?_toArray, List.getElem?_cons_succ, List.getElem?_cons_zero, Option.getD_some, List.set_cons_succ, List.set_cons_zero, Value.cells, List.toList_toArray] at hS)))
                refine ⟨⟨_, _, _, _, _, _, _, _, _, ?rel, rfl⟩, ?measure⟩
                case rel => exact ⟨k + 1, by omega, by go_num, by rw [HSU.out]; exact WrSt.mk hS⟩
                case measure => simp [intOf]; omega
              · obtain rfl : k = 7 := by omega
                go_wp2_with (first | ((with_reducible show WGd ..); (with_reducible apply wpA_guard); exact rfl; skip) | ((with_reducible show WLd ..); (with_reducible apply wpA_load); exact rfl; (first | ((with_reducible apply St.cellI hS); (focus repeat constructor); exact rfl) | assumption); kernel_rfl) | ((with_reducible show WSt ..); (with_reducible apply wpA_store1I hS); exact rfl; (focus repeat constructor); exact rfl; exact rfl; exact rfl; exact rfl; kernel_rfl; intro wx hS; (try simp only [Act.put, List.setIfInBounds_toArray, List.set_cons_zero, List.set_cons_succ]); (try simp only [Act.eval, Array.getD_eq_getD_getElem?, List.getElem?_toArray, List.getElem?_cons_succ, List.getElem?_cons_zero, Option.getD_some, List.set_cons_succ, List.set_cons_zero, Value.cells, List.toList_toArray] at hS)) | ((with_reducible show WBx ..); (with_reducible apply wpA_box hS); exact rfl; exact rfl; intro _ wx hS; (try simp only [Act.put, List.setIfInBounds_toArray, List.set_cons_zero, List.set_cons_succ]); (try simp only [Act.eval, Array.getD_eq_getD_getElem?, List.getElem?_toArray, List.getElem?_cons_succ, List.getElem?_cons_zero, Option.getD_some, List.set_cons_succ, List.set_cons_zero, Value.cells, List.toList_toArray] at hS)))
                go_meet
                rw [List.take_of_length_le (by omega)] at hW7
                exact hW7
          case rest =>
            clear hW7
            obtain ⟨aw, cw, hS⟩ := hcut
            have hkl := flatI_len hno
            rw [hnl] at hkl
            have hse : sesE i ⟨client, life, op, seq, true, rs, rq, re, tk, rn⟩ = ns.flatMap intB ++ (uvB tk ++ intB rn) := by
              have e1 : numsE i ⟨client, life, op, seq, true, rs, rq, re, tk, rn⟩ = ns := by rw [HNS.out]; rfl
              unfold sesE
              rw [e1]
              rfl
            have hut : (uvB tk).length ≤ 10 := uvB_len64 HT.out
            have HSE := Lib.hid hse
            clear hse hnl
            go_wp2_with (first | ((with_reducible show WGd ..); (with_reducible apply wpA_guard); exact rfl; skip) | (go_at_call 36; (with_reducible refine (wrint_c w0 _ _ gw _ _ (WrSt.mk hS) (by first | omega | (constructor <;> omega)) (by (try simp only [List.length_append]); omega)).mono ?_); rintro _ _ ⟨rfl, aw, cw, hS⟩) | (go_at_call 38; (with_reducible refine (wru64_c w0 _ _ gw _ tk (WrSt.mk hS) HT.out (by (try simp only [List.length_append]); omega)).mono ?_); rintro _ _ ⟨rfl, aw, cw, hS⟩) | ((first | ((with_reducible show WAl ..); (with_reducible apply wpA_alloc (t := 30) hS (v := .agg #[.int .i64 0, .int .i64 0, .int .i64 0, .int .u64 0, .int .i64 0])); kernel_rfl; exact rfl; intro _ wx hS) | ((with_reducible show WBx ..); (with_reducible apply wpA_box hS); exact rfl; exact rfl; intro _ wx hS)); (try simp only [Act.put, List.setIfInBounds_toArray, List.set_cons_zero, List.set_cons_succ]); (try simp only [Act.eval, Array.getD_eq_getD_getElem?, List.getElem?_toArray, List.getElem?_cons_succ, List.getElem?_cons_zero, Option.getD_some, List.set_cons_succ, List.set_cons_zero, Value.cells, List.toList_toArray] at hS)) | ((with_reducible show WLd ..); (with_reducible apply wpA_loadN (t := 30)); exact rfl; ((with_reducible apply Hp.rangeI hS (n := 5)); (focus repeat constructor)); kernel_rfl; kernel_rfl; (try simp only [Act.put, List.setIfInBounds_toArray, List.set_cons_zero, List.set_cons_succ])) | ((with_reducible show WSt ..); (with_reducible apply wpA_storeI hS); exact rfl; (focus repeat constructor); exact rfl; exact rfl; exact rfl; exact (Nat.le_of_ble_eq_true rfl); kernel_rfl; intro wx hS; (try simp only [Act.put, List.setIfInBounds_toArray, List.set_cons_zero, List.set_cons_succ]); (try simp only [Act.eval, Array.getD_eq_getD_getElem?, List.getElem?_toArray, List.getElem?_cons_succ, List.getElem?_cons_zero, Option.getD_some, List.set_cons_succ, List.set_cons_zero, Value.cells, List.toList_toArray] at hS); (try simp only [List.take_zero, List.take_succ_cons, List.nil_append, List.cons_append, List.length_cons, List.length_nil, Nat.reduceAdd, Nat.zero_add, List.drop_succ_cons, List.drop_zero, List.drop_nil, List.append_nil] at hS)) | ((with_reducible show WLd ..); (with_reducible apply wpA_load); exact rfl; (first | ((with_reducible apply St.cellI hS); (focus repeat constructor); exact rfl) | assumption); kernel_rfl) | ((with_reducible show WSt ..); (with_reducible apply wpA_store1I hS); exact rfl; (focus repeat constructor); exact rfl; exact rfl; exact rfl; exact rfl; kernel_rfl; intro wx hS; (try simp only [Act.put, List.setIfInBounds_toArray, List.set_cons_zero, List.set_cons_succ]); (try simp only [Act.eval, Array.getD_eq_getD_getElem?, List.getElem?_toArray, List.getElem?_cons_succ, List.getElem?_cons_zero, Option.getD_some, List.set_cons_succ, List.set_cons_zero, Value.cells, List.toList_toArray] at hS)))
            refine ⟨?rel, ?measure⟩
            case rel =>
              refine ⟨i + 1, by omega, by go_num, ?_⟩
              rw [HPS.out, HSE.out, ← List.append_assoc, ← List.append_assoc]
              ((try simp only [List.set_cons_succ, List.set_cons_zero] at hS); replace hS := hS.sel [0, 1, 4, 5, 6, 7] 8 (by decide) (by decide) (by simp); simp only [List.filterMap_cons, List.filterMap_nil, List.getElem?_cons_succ, List.getElem?_cons_zero, List.drop_succ_cons, List.drop_zero, List.cons_append, List.nil_append] at hS)
              exact WrSt.mk (HPUT.out _ [_, _] hS)
            case measure => simp [intOf]; omega
        | false =>
          go_upto_region 12 with (first | ((with_reducible show WGd ..); (with_reducible apply wpA_guard); exact rfl; skip) | ((with_reducible show WLn ..); (with_reducible apply wpA_lenMap hS 3); exact rfl; exact rfl; exact Try.underlying59) | ((with_reducible apply wpA_lookup hS 3 (z := .pointer none) (r := some (.pointer (some ⟨blk, 0, none⟩)))); exact rfl; exact rfl; exact rfl; exact Try.underlying59; exact Try.underlying3; exact rfl; kernel_rfl; exact HKV.out; dsimp only [Option.getD, Option.isSome, if_true, Bool.false_eq_true, if_false]) | ((first | ((with_reducible show WAl ..); (with_reducible apply wpA_alloc (t := 30) hS (v := .agg #[.int .i64 0, .int .i64 0, .int .i64 0, .int .u64 0, .int .i64 0])); kernel_rfl; exact rfl; intro g6 wx hS) | ((with_reducible show WBx ..); (with_reducible apply wpA_box hS); exact rfl; exact rfl; intro _ wx hS)); (try simp only [Act.put, List.setIfInBounds_toArray, List.set_cons_zero, List.set_cons_succ]); (try simp only [Act.eval, Array.getD_eq_getD_getElem?, List.getElem?_toArray, List.getElem?_cons_succ, List.getElem?_cons_zero, Option.getD_some, List.set_cons_succ, List.set_cons_zero, Value.cells, List.toList_toArray] at hS)) | ((with_reducible show WLd ..); (with_reducible apply wpA_loadN (t := 30)); exact rfl; ((with_reducible apply Hp.rangeI hS (n := 5)); (focus repeat constructor)); kernel_rfl; kernel_rfl; (try simp only [Act.put, List.setIfInBounds_toArray, List.set_cons_zero, List.set_cons_succ])) | ((with_reducible show WSt ..); (with_reducible apply wpA_storeI hS); exact rfl; (focus repeat constructor); exact rfl; exact rfl; exact rfl; exact (Nat.le_of_ble_eq_true rfl); kernel_rfl; intro wx hS; (try simp only [Act.put, List.setIfInBounds_toArray, List.set_cons_zero, List.set_cons_succ]); (try simp only [Act.eval, Array.getD_eq_getD_getElem?, List.getElem?_toArray, List.getElem?_cons_succ, List.getElem?_cons_zero, Option.getD_some, List.set_cons_succ, List.set_cons_zero, Value.cells, List.toList_toArray] at hS); (try simp only [List.take_zero, List.take_succ_cons, List.nil_append, List.cons_append, List.length_cons, List.length_nil, Nat.reduceAdd, Nat.zero_add, List.drop_succ_cons, List.drop_zero, List.drop_nil, List.append_nil] at hS)) | ((with_reducible show WLd ..); (with_reducible apply wpA_load); exact rfl; (first | ((with_reducible apply St.cellI hS); (focus repeat constructor); exact rfl) | assumption); kernel_rfl) | ((with_reducible show WSt ..); (with_reducible apply wpA_store1I hS); exact rfl; (focus repeat constructor); exact rfl; exact rfl; exact rfl; exact rfl; kernel_rfl; intro wx hS; (try simp only [Act.put, List.setIfInBounds_toArray, List.set_cons_zero, List.set_cons_succ]); (try simp only [Act.eval, Array.getD_eq_getD_getElem?, List.getElem?_toArray, List.getElem?_cons_succ, List.getElem?_cons_zero, Option.getD_some, List.set_cons_succ, List.set_cons_zero, Value.cells, List.toList_toArray] at hS)))
          refine wp_region_A2 (fun _ h => St.sub h (.cons_cons _ (.cons _ (.cons _ (.cons _ (.cons _ (.cons _ (.cons_cons _ (List.nil_sublist _))))))))) hS (by kernel_rfl) (fun _ hR hS => ?_)
          simp only [List.length_cons, List.length_nil, Nat.reduceAdd]
          refine takeAP_val (i := 0) ?_ rfl (by exact rfl) (by kernel_rfl) (fun _ _ _ h => h) ?_ hR (fun hR => ?_)
          rotate_left
          · intro w; go_simp; (first | done | (with_reducible rfl) | (refine (if_pos ?_).trans ?_; (focus omega); with_reducible rfl) | skip)
          (simp only [Act.put, List.setIfInBounds_toArray, List.set_cons_zero, List.set_cons_succ])
          refine takeAP_val (i := 1) ?_ rfl (by exact rfl) (by kernel_rfl) (fun _ _ _ h => h) ?_ hR (fun hR => ?_)
          rotate_left
          · intro w; go_simp; (first | done | (with_reducible rfl) | (refine (if_pos ?_).trans ?_; (focus omega); with_reducible rfl) | skip)
          (simp only [Act.put, List.setIfInBounds_toArray, List.set_cons_zero, List.set_cons_succ])
          refine takeAP_val (i := 2) ?_ rfl (by exact rfl) (by kernel_rfl) (fun _ _ _ h => h) ?_ hR (fun hR => ?_)
          rotate_left
          · intro w; go_simp; (first | done | (with_reducible rfl) | (refine (if_pos ?_).trans ?_; (focus omega); with_reducible rfl) | skip)
          (simp only [Act.put, List.setIfInBounds_toArray, List.set_cons_zero, List.set_cons_succ])
          refine takeAP_val (i := 3) ?_ rfl (by exact rfl) (by kernel_rfl) (fun _ _ _ h => h) ?_ hR (fun hR => ?_)
          rotate_left
          · intro w; go_simp; (first | done | (with_reducible rfl) | (refine (if_pos ?_).trans ?_; (focus omega); with_reducible rfl) | skip)
          (simp only [Act.put, List.setIfInBounds_toArray, List.set_cons_zero, List.set_cons_succ])
          refine takeA_load (i := 4) [] rfl (by exact rfl) (by kernel_rfl) (fun _ _ _ h => h) (by decide) rfl (fun w hS => by (first | ((with_reducible apply St.cellI hS); (focus repeat constructor); exact rfl) | assumption)) (by kernel_rfl) hR (fun hR => ?_)
          (simp only [Act.put, List.setIfInBounds_toArray, List.set_cons_zero, List.set_cons_succ])
          refine takeAP_val (i := 5) ?_ rfl (by exact rfl) (by kernel_rfl) (fun _ _ _ h => h) ?_ hR (fun hR => ?_)
          rotate_left
          · intro w; go_simp; (first | done | (with_reducible rfl) | (refine (if_pos ?_).trans ?_; (focus omega); with_reducible rfl) | skip)
          (simp only [Act.put, List.setIfInBounds_toArray, List.set_cons_zero, List.set_cons_succ])
          refine takeAP_val (i := 6) ?_ rfl (by exact rfl) (by kernel_rfl) (fun _ _ _ h => h) ?_ hR (fun hR => ?_)
          rotate_left
          · intro w; go_simp; (first | done | (with_reducible rfl) | (refine (if_pos ?_).trans ?_; (focus omega); with_reducible rfl) | skip)
          (simp only [Act.put, List.setIfInBounds_toArray, List.set_cons_zero, List.set_cons_succ])
          refine takeAP_val (i := 7) ?_ rfl (by exact rfl) (by kernel_rfl) (fun _ _ _ h => h) ?_ hR (fun hR => ?_)
          rotate_left
          · intro w; go_simp; (first | done | (with_reducible rfl) | (refine (if_pos ?_).trans ?_; (focus omega); with_reducible rfl) | skip)
          (simp only [Act.put, List.setIfInBounds_toArray, List.set_cons_zero, List.set_cons_succ])
          refine takeA_load (i := 8) [] rfl (by exact rfl) (by kernel_rfl) (fun _ _ _ h => h) (by decide) rfl (fun w hS => by (first | ((with_reducible apply St.cellI hS); (focus repeat constructor); exact rfl) | assumption)) (by kernel_rfl) hR (fun hR => ?_)
          (simp only [Act.put, List.setIfInBounds_toArray, List.set_cons_zero, List.set_cons_succ])
          refine takeAP_val (i := 9) ?_ rfl (by exact rfl) (by kernel_rfl) (fun _ _ _ h => h) ?_ hR (fun hR => ?_)
          rotate_left
          · intro w; go_simp; (first | done | (with_reducible rfl) | (refine (if_pos ?_).trans ?_; (focus omega); with_reducible rfl) | skip)
          (simp only [Act.put, List.setIfInBounds_toArray, List.set_cons_zero, List.set_cons_succ])
          refine takeAP_val (i := 10) ?_ rfl (by exact rfl) (by kernel_rfl) (fun _ _ _ h => h) ?_ hR (fun hR => ?_)
          rotate_left
          · intro w; go_simp; (first | done | (with_reducible rfl) | (refine (if_pos ?_).trans ?_; (focus omega); with_reducible rfl) | skip)
          (simp only [Act.put, List.setIfInBounds_toArray, List.set_cons_zero, List.set_cons_succ])
          refine takeAP_val (i := 11) ?_ rfl (by exact rfl) (by kernel_rfl) (fun _ _ _ h => h) ?_ hR (fun hR => ?_)
          rotate_left
          · intro w; go_simp; (first | done | (with_reducible rfl) | (refine (if_pos ?_).trans ?_; (focus omega); with_reducible rfl) | skip)
          (simp only [Act.put, List.setIfInBounds_toArray, List.set_cons_zero, List.set_cons_succ])
          refine takeA_load (i := 12) [] rfl (by exact rfl) (by kernel_rfl) (fun _ _ _ h => h) (by decide) rfl (fun w hS => by (first | ((with_reducible apply St.cellI hS); (focus repeat constructor); exact rfl) | assumption)) (by kernel_rfl) hR (fun hR => ?_)
          (simp only [Act.put, List.setIfInBounds_toArray, List.set_cons_zero, List.set_cons_succ])
          refine takeAP_val (i := 14) ?_ rfl (by exact rfl) (by kernel_rfl) (fun _ _ _ h => h) ?_ hR (fun hR => ?_)
          rotate_left
          · intro w; go_simp; (first | done | (with_reducible rfl) | (refine (if_pos ?_).trans ?_; (focus omega); with_reducible rfl) | skip)
          (simp only [Act.put, List.setIfInBounds_toArray, List.set_cons_zero, List.set_cons_succ])
          refine takeAP_val (i := 15) ?_ rfl (by exact rfl) (by kernel_rfl) (fun _ _ _ h => h) ?_ hR (fun hR => ?_)
          rotate_left
          · intro w; go_simp; (first | done | (with_reducible rfl) | (refine (if_pos ?_).trans ?_; (focus omega); with_reducible rfl) | skip)
          (simp only [Act.put, List.setIfInBounds_toArray, List.set_cons_zero, List.set_cons_succ])
          refine takeAP_val (i := 16) ?_ rfl (by exact rfl) (by kernel_rfl) (fun _ _ _ h => h) ?_ hR (fun hR => ?_)
          rotate_left
          · intro w; go_simp; (first | done | (with_reducible rfl) | (refine (if_pos ?_).trans ?_; (focus omega); with_reducible rfl) | skip)
          (simp only [Act.put, List.setIfInBounds_toArray, List.set_cons_zero, List.set_cons_succ])
          refine takeA_load (i := 17) [] rfl (by exact rfl) (by kernel_rfl) (fun _ _ _ h => h) (by decide) rfl (fun w hS => by (first | ((with_reducible apply St.cellI hS); (focus repeat constructor); exact rfl) | assumption)) (by kernel_rfl) hR (fun hR => ?_)
          (simp only [Act.put, List.setIfInBounds_toArray, List.set_cons_zero, List.set_cons_succ])
          refine takeAP_val (i := 18) ?_ rfl (by exact rfl) (by kernel_rfl) (fun _ _ _ h => h) ?_ hR (fun hR => ?_)
          rotate_left
          · intro w; go_simp; (first | done | (with_reducible rfl) | (refine (if_pos ?_).trans ?_; (focus omega); with_reducible rfl) | skip)
          (simp only [Act.put, List.setIfInBounds_toArray, List.set_cons_zero, List.set_cons_succ])
          refine takeAP_val (i := 19) ?_ rfl (by exact rfl) (by kernel_rfl) (fun _ _ _ h => h) ?_ hR (fun hR => ?_)
          rotate_left
          · intro w; go_simp; (first | done | (with_reducible rfl) | (refine (if_pos ?_).trans ?_; (focus omega); with_reducible rfl) | skip)
          (simp only [Act.put, List.setIfInBounds_toArray, List.set_cons_zero, List.set_cons_succ])
          refine takeAP_val (i := 20) ?_ rfl (by exact rfl) (by kernel_rfl) (fun _ _ _ h => h) ?_ hR (fun hR => ?_)
          rotate_left
          · intro w; go_simp; (first | done | (with_reducible rfl) | (refine (if_pos ?_).trans ?_; (focus omega); with_reducible rfl) | skip)
          (simp only [Act.put, List.setIfInBounds_toArray, List.set_cons_zero, List.set_cons_succ])
          refine takeA_load (i := 21) [] rfl (by exact rfl) (by kernel_rfl) (fun _ _ _ h => h) (by decide) rfl (fun w hS => by (first | ((with_reducible apply St.cellI hS); (focus repeat constructor); exact rfl) | assumption)) (by kernel_rfl) hR (fun hR => ?_)
          (simp only [Act.put, List.setIfInBounds_toArray, List.set_cons_zero, List.set_cons_succ])
          refine takeAP_val (i := 23) ?_ rfl (by exact rfl) (by kernel_rfl) (fun _ _ _ h => h) ?_ hR (fun hR => ?_)
          rotate_left
          · intro w; go_simp; (first | done | (with_reducible rfl) | (refine (if_pos ?_).trans ?_; (focus omega); with_reducible rfl) | skip)
          (simp only [Act.put, List.setIfInBounds_toArray, List.set_cons_zero, List.set_cons_succ])
          refine takeA_load (i := 24) [] rfl (by exact rfl) (by kernel_rfl) (fun _ _ _ h => h) (by decide) rfl (fun w hS => by (first | ((with_reducible apply St.cellI hS); (focus repeat constructor); exact rfl) | assumption)) (by kernel_rfl) hR (fun hR => ?_)
          (simp only [Act.put, List.setIfInBounds_toArray, List.set_cons_zero, List.set_cons_succ])
          refine takeAP_val (i := 27) ?_ rfl (by exact rfl) (by kernel_rfl) (fun _ _ _ h => h) ?_ hR (fun hR => ?_)
          rotate_left
          · intro w; go_simp; (first | done | (with_reducible rfl) | (refine (if_pos ?_).trans ?_; (focus omega); with_reducible rfl) | skip)
          (simp only [Act.put, List.setIfInBounds_toArray, List.set_cons_zero, List.set_cons_succ])
          refine oneA (i := 13) (by kernel_rfl) rfl (by exact rfl) (fun K_ hK_ => ?_)
          (apply opA_call (f := 37) Try.func37 (by kernel_rfl); (focus ((try simp only [List.map_toArray, List.map_cons, List.map_nil, Act.eval, Array.getD_eq_getD_getElem?, List.getElem?_toArray, List.getElem?_cons_succ, List.getElem?_cons_zero, Option.getD_some]); exact rfl)); (focus (with_reducible exact (flag_c hS op))); rintro _ _ ⟨rfl, hS⟩; refine ⟨_, rfl, ?_⟩; skip)
          refine hK_ _ _ (id ((St.sub hS (.cons_cons _ (.cons _ (.cons _ (.cons _ (.cons _ (.cons _ (.cons_cons _ (List.nil_sublist _))))))))))) ?_; clear hK_ K_
          (simp only [Act.put, List.setIfInBounds_toArray, List.set_cons_zero, List.set_cons_succ])
          refine oneA (i := 22) (by kernel_rfl) rfl (by exact rfl) (fun K_ hK_ => ?_)
          (apply opA_call (f := 37) Try.func37 (by kernel_rfl); (focus ((try simp only [List.map_toArray, List.map_cons, List.map_nil, Act.eval, Array.getD_eq_getD_getElem?, List.getElem?_toArray, List.getElem?_cons_succ, List.getElem?_cons_zero, Option.getD_some]); exact rfl)); (focus (with_reducible exact (flag_c hS false))); rintro _ _ ⟨rfl, hS⟩; refine ⟨_, rfl, ?_⟩; skip)
          refine hK_ _ _ (id ((St.sub hS (.cons_cons _ (.cons _ (.cons _ (.cons _ (.cons _ (.cons _ (.cons_cons _ (List.nil_sublist _))))))))))) ?_; clear hK_ K_
          (simp only [Act.put, List.setIfInBounds_toArray, List.set_cons_zero, List.set_cons_succ])
          refine oneA (i := 25) (by kernel_rfl) rfl (by exact rfl) (fun K_ hK_ => ?_)
          ((with_reducible apply opA_seven hS (z := .int .i64 0) (bytes := 8)); exact Try.underlying22; kernel_rfl; exact rfl; exact rfl; exact rfl; exact rfl; exact rfl; exact rfl; exact rfl; exact rfl; exact rfl; exact rfl; exact rfl; exact rfl; exact rfl; exact rfl; intro g7 wx hS)
          refine hK_ _ _ (id ((St.sub hS (.cons _ (.cons_cons _ (.cons _ (.cons _ (.cons _ (.cons _ (.cons _ (.cons_cons _ (List.nil_sublist _)))))))))))) ?_; clear hK_ K_
          (simp only [Act.put, List.setIfInBounds_toArray, List.set_cons_zero, List.set_cons_succ])
          refine takeAP_val (i := 26) ?_ rfl (by exact rfl) (by kernel_rfl) (fun _ _ _ h => h) ?_ (id (St.sub hS (.cons _ (.cons_cons _ (.cons _ (.cons _ (.cons _ (.cons _ (.cons _ (.cons_cons _ (List.nil_sublist _))))))))))) (fun hR => ?_)
          rotate_left
          · intro w; go_simp; (first | done | (with_reducible rfl) | (refine (if_pos ?_).trans ?_; (focus omega); with_reducible rfl) | skip)
          (simp only [Act.put, List.setIfInBounds_toArray, List.set_cons_zero, List.set_cons_succ])
          refine wpAnyR_done (by kernel_rfl) ?_ _
          obtain ⟨ns, hns⟩ : ∃ ns : List Int, ns = [(i : Int) + 1, client, life, flagI op, seq, flagI false, 0] := ⟨_, rfl⟩
          replace hS := hS.re0 (b := ns.map (Value.int .i64)) (by rw [hns]; rfl)
          ((try simp only [List.set_cons_succ, List.set_cons_zero] at hS); replace hS := hS.sel [2, 3, 0, 1, 4, 5, 6, 7] 8 (by decide) (by decide) (by simp); simp only [List.filterMap_cons, List.filterMap_nil, List.getElem?_cons_succ, List.getElem?_cons_zero, List.drop_succ_cons, List.drop_zero, List.cons_append, List.nil_append] at hS)
          have hW7 := WrSt.mk hS
          clear hS
          have hnl : ns.length = 7 := by rw [hns]; rfl
          have hno : ∀ n ∈ ns, I64 n := by rw [hns]; exact numsE_ok (i := i) (x := ⟨client, life, op, seq, false, rs, rq, re, tk, rn⟩) (by omega) HXO.out
          have HNS := Lib.hid hns
          clear hns
          go_upto_block 2 with (first | ((with_reducible show WGd ..); (with_reducible apply wpA_guard); exact rfl; skip) | ((with_reducible show WLd ..); (with_reducible apply wpA_load); exact rfl; (first | ((with_reducible apply St.cellI hS); (focus repeat constructor); exact rfl) | assumption); kernel_rfl) | ((with_reducible show WSt ..); (with_reducible apply wpA_store1I hS); exact rfl; (focus repeat constructor); exact rfl; exact rfl; exact rfl; exact rfl; kernel_rfl; intro wx hS; (try simp only [Act.put, List.setIfInBounds_toArray, List.set_cons_zero, List.set_cons_succ]); (try simp only [Act.eval, Array.getD_eq_getD_getElem?, List.getElem?_toArray, List.getElem?_cons_succ, List.getElem?_cons_zero, Option.getD_some, List.set_cons_succ, List.set_cons_zero, Value.cells, List.toList_toArray] at hS)) | ((with_reducible show WBx ..); (with_reducible apply wpA_box hS); exact rfl; exact rfl; intro _ wx hS; (try simp only [Act.put, List.setIfInBounds_toArray, List.set_cons_zero, List.set_cons_succ]); (try simp only [Act.eval, Array.getD_eq_getD_getElem?, List.getElem?_toArray, List.getElem?_cons_succ, List.getElem?_cons_zero, Option.getD_some, List.set_cons_succ, List.set_cons_zero, Value.cells, List.toList_toArray] at hS)))
          go_cut [] (fun wr => WrSt w0 wr gw (preE σ i ++ ns.flatMap intB) (.cells g7 (ns.map (Value.int .i64)) 3 :: .cells g6 [.int .i64 0, .int .i64 0, .int .i64 0, .int .u64 0, .int .i64 0] 30 :: sc p ml mc :: .mp ml (.int .i64) (Z.mapIdx kvI) :: .mp mc (.int .i64) (σ.c.map kvC) :: oneC blk ⟨client, life, op, seq, false, rs, rq, re, tk, rn⟩ :: ((Z.eraseIdx i).flatMap shp ++ R)))
          case first =>
            go_wp2_with (first | ((with_reducible show WGd ..); (with_reducible apply wpA_guard); exact rfl; skip) | ((with_reducible show WLd ..); (with_reducible apply wpA_load); exact rfl; (first | ((with_reducible apply St.cellI hS); (focus repeat constructor); exact rfl) | assumption); kernel_rfl) | ((with_reducible show WSt ..); (with_reducible apply wpA_store1I hS); exact rfl; (focus repeat constructor); exact rfl; exact rfl; exact rfl; exact rfl; kernel_rfl; intro wx hS; (try simp only [Act.put, List.setIfInBounds_toArray, List.set_cons_zero, List.set_cons_succ]); (try simp only [Act.eval, Array.getD_eq_getD_getElem?, List.getElem?_toArray, List.getElem?_cons_succ, List.getElem?_cons_zero, Option.getD_some, List.set_cons_succ, List.set_cons_zero, Value.cells, List.toList_toArray] at hS)) | ((with_reducible show WBx ..); (with_reducible apply wpA_box hS); exact rfl; exact rfl; intro _ wx hS; (try simp only [Act.put, List.setIfInBounds_toArray, List.set_cons_zero, List.set_cons_succ]); (try simp only [Act.eval, Array.getD_eq_getD_getElem?, List.getElem?_toArray, List.getElem?_cons_succ, List.getElem?_cons_zero, Option.getD_some, List.set_cons_succ, List.set_cons_zero, Value.cells, List.toList_toArray] at hS)))
            go_loopw [71] (fun v wr => ∃ k : Nat, k ≤ 7 ∧ v = .int .i64 k ∧ WrSt w0 wr gw (preE σ i ++ (ns.take k).flatMap intB) (.cells g7 (ns.map (Value.int .i64)) 3 :: .cells g6 [.int .i64 0, .int .i64 0, .int .i64 0, .int .u64 0, .int .i64 0] 30 :: sc p ml mc :: .mp ml (.int .i64) (Z.mapIdx kvI) :: .mp mc (.int .i64) (σ.c.map kvC) :: oneC blk ⟨client, life, op, seq, false, rs, rq, re, tk, rn⟩ :: ((Z.eraseIdx i).flatMap shp ++ R))) (fun v _ => 7 - (intOf v).toNat)
            case atStart => exact ⟨0, Nat.zero_le _, rfl, by rw [List.take_zero, List.flatMap_nil, List.append_nil]; exact hW7⟩
            case round =>
              clear hW7
              obtain ⟨k, hk, rfl, hW7⟩ := hrel
              by_cases hk7 : k < 7
              · obtain ⟨m, hm7⟩ : ∃ m, ns[k]? = some m := ⟨_, List.getElem?_eq_getElem (by omega)⟩
                obtain ⟨m1, m2⟩ := hno m (List.mem_of_getElem? hm7)
                have hcell : (ns.map (Value.int .i64))[k]? = some (.int .i64 m) := by rw [List.getElem?_map, hm7]; rfl
                have hkl := flatI_len (ns := ns.take k) (fun n hn => hno n (List.mem_of_mem_take hn))
                have hkt : (ns.take k).length ≤ 7 := by rw [List.length_take]; omega
                have hsu : preE σ i ++ (ns.take (k + 1)).flatMap intB = preE σ i ++ (ns.take k).flatMap intB ++ intB m := by rw [List.take_add_one, hm7, List.flatMap_append]; simp
                have HSU := Lib.hid hsu
                have HC := Lib.hid hcell
                obtain ⟨aw, cw, hS⟩ := hW7
                clear hcell hm7 hsu hnl
                go_wp2_with (first | ((with_reducible show WGd ..); (with_reducible apply wpA_guard); exact rfl; skip) | ((with_reducible show WLd ..); (with_reducible apply wpA_load); exact rfl; exact hS.cell 2 rfl k HC.out; kernel_rfl) | (go_at_call 36; (with_reducible refine (wrint_c w0 _ _ gw _ _ (WrSt.mk hS) (by first | omega | (constructor <;> omega)) (by (try simp only [List.length_append]); omega)).mono ?_); rintro _ _ ⟨rfl, aw, cw, hS⟩) | ((with_reducible show WLd ..); (with_reducible apply wpA_load); exact rfl; (first | ((with_reducible apply St.cellI hS); (focus repeat constructor); exact rfl) | assumption); kernel_rfl) | ((with_reducible show WSt ..); (with_reducible apply wpA_store1I hS); exact rfl; (focus repeat constructor); exact rfl; exact rfl; exact rfl; exact rfl; kernel_rfl; intro wx hS; (try simp only [Act.put, List.setIfInBounds_toArray, List.set_cons_zero, List.set_cons_succ]); (try simp only [Act.eval, Array.getD_eq_getD_getElem?, List.getElem?_toArray, List.getElem?_cons_succ, List.getElem?_cons_zero, Option.getD_some, List.set_cons_succ, List.set_cons_zero, Value.cells, List.toList_toArray] at hS)) | ((with_reducible show WBx ..); (with_reducible apply wpA_box hS); exact rfl; exact rfl; intro _ wx hS; (try simp only [Act.put, List.setIfInBounds_toArray, List.set_cons_zero, List.set_cons_succ]); (try simp only [Act.eval, Array.getD_eq_getD_getElem?, List.getElem?_toArray, List.getElem?_cons_succ, List.getElem?_cons_zero, Option.getD_some, List.set_cons_succ, List.set_cons_zero, Value.cells, List.toList_toArray] at hS)))
                refine ⟨?rel, ?measure⟩
                case rel => exact ⟨k + 1, by omega, by go_num, by rw [HSU.out]; exact WrSt.mk hS⟩
                case measure => simp [intOf]; omega
              · obtain rfl : k = 7 := by omega
                go_wp2_with (first | ((with_reducible show WGd ..); (with_reducible apply wpA_guard); exact rfl; skip) | ((with_reducible show WLd ..); (with_reducible apply wpA_load); exact rfl; (first | ((with_reducible apply St.cellI hS); (focus repeat constructor); exact rfl) | assumption); kernel_rfl) | ((with_reducible show WSt ..); (with_reducible apply wpA_store1I hS); exact rfl; (focus repeat constructor); exact rfl; exact rfl; exact rfl; exact rfl; kernel_rfl; intro wx hS; (try simp only [Act.put, List.setIfInBounds_toArray, List.set_cons_zero, List.set_cons_succ]); (try simp only [Act.eval, Array.getD_eq_getD_getElem?, List.getElem?_toArray, List.getElem?_cons_succ, List.getElem?_cons_zero, Option.getD_some, List.set_cons_succ, List.set_cons_zero, Value.cells, List.toList_toArray] at hS)) | ((with_reducible show WBx ..); (with_reducible apply wpA_box hS); exact rfl; exact rfl; intro _ wx hS; (try simp only [Act.put, List.setIfInBounds_toArray, List.set_cons_zero, List.set_cons_succ]); (try simp only [Act.eval, Array.getD_eq_getD_getElem?, List.getElem?_toArray, List.getElem?_cons_succ, List.getElem?_cons_zero, Option.getD_some, List.set_cons_succ, List.set_cons_zero, Value.cells, List.toList_toArray] at hS)))
                go_meet
                rw [List.take_of_length_le (by omega)] at hW7
                exact hW7
          case rest =>
            clear hW7
            obtain ⟨aw, cw, hS⟩ := hcut
            have hkl := flatI_len hno
            rw [hnl] at hkl
            have hse : sesE i ⟨client, life, op, seq, false, rs, rq, re, tk, rn⟩ = ns.flatMap intB ++ (uvB 0 ++ intB 0) := by
              have e1 : numsE i ⟨client, life, op, seq, false, rs, rq, re, tk, rn⟩ = ns := by rw [HNS.out]; rfl
              unfold sesE
              rw [e1]
              rfl
            have hut : (uvB 0).length ≤ 10 := uvB_len64 (by decide)
            have HSE := Lib.hid hse
            clear hse hnl
            go_wp2_with (first | ((with_reducible show WGd ..); (with_reducible apply wpA_guard); exact rfl; skip) | (go_at_call 36; (with_reducible refine (wrint_c w0 _ _ gw _ _ (WrSt.mk hS) (by first | omega | (constructor <;> omega)) (by (try simp only [List.length_append]); omega)).mono ?_); rintro _ _ ⟨rfl, aw, cw, hS⟩) | (go_at_call 38; (with_reducible refine (wru64_0 w0 _ _ gw _ (WrSt.mk hS) (by (try simp only [List.length_append]); omega)).mono ?_); rintro _ _ ⟨rfl, aw, cw, hS⟩) | ((first | ((with_reducible show WAl ..); (with_reducible apply wpA_alloc (t := 30) hS (v := .agg #[.int .i64 0, .int .i64 0, .int .i64 0, .int .u64 0, .int .i64 0])); kernel_rfl; exact rfl; intro _ wx hS) | ((with_reducible show WBx ..); (with_reducible apply wpA_box hS); exact rfl; exact rfl; intro _ wx hS)); (try simp only [Act.put, List.setIfInBounds_toArray, List.set_cons_zero, List.set_cons_succ]); (try simp only [Act.eval, Array.getD_eq_getD_getElem?, List.getElem?_toArray, List.getElem?_cons_succ, List.getElem?_cons_zero, Option.getD_some, List.set_cons_succ, List.set_cons_zero, Value.cells, List.toList_toArray] at hS)) | ((with_reducible show WLd ..); (with_reducible apply wpA_loadN (t := 30)); exact rfl; ((with_reducible apply Hp.rangeI hS (n := 5)); (focus repeat constructor)); kernel_rfl; kernel_rfl; (try simp only [Act.put, List.setIfInBounds_toArray, List.set_cons_zero, List.set_cons_succ])) | ((with_reducible show WSt ..); (with_reducible apply wpA_storeI hS); exact rfl; (focus repeat constructor); exact rfl; exact rfl; exact rfl; exact (Nat.le_of_ble_eq_true rfl); kernel_rfl; intro wx hS; (try simp only [Act.put, List.setIfInBounds_toArray, List.set_cons_zero, List.set_cons_succ]); (try simp only [Act.eval, Array.getD_eq_getD_getElem?, List.getElem?_toArray, List.getElem?_cons_succ, List.getElem?_cons_zero, Option.getD_some, List.set_cons_succ, List.set_cons_zero, Value.cells, List.toList_toArray] at hS); (try simp only [List.take_zero, List.take_succ_cons, List.nil_append, List.cons_append, List.length_cons, List.length_nil, Nat.reduceAdd, Nat.zero_add, List.drop_succ_cons, List.drop_zero, List.drop_nil, List.append_nil] at hS)) | ((with_reducible show WLd ..); (with_reducible apply wpA_load); exact rfl; (first | ((with_reducible apply St.cellI hS); (focus repeat constructor); exact rfl) | assumption); kernel_rfl) | ((with_reducible show WSt ..); (with_reducible apply wpA_store1I hS); exact rfl; (focus repeat constructor); exact rfl; exact rfl; exact rfl; exact rfl; kernel_rfl; intro wx hS; (try simp only [Act.put, List.setIfInBounds_toArray, List.set_cons_zero, List.set_cons_succ]); (try simp only [Act.eval, Array.getD_eq_getD_getElem?, List.getElem?_toArray, List.getElem?_cons_succ, List.getElem?_cons_zero, Option.getD_some, List.set_cons_succ, List.set_cons_zero, Value.cells, List.toList_toArray] at hS)))
            refine ⟨?rel, ?measure⟩
            case rel =>
              refine ⟨i + 1, by omega, by go_num, ?_⟩
              rw [HPS.out, HSE.out, ← List.append_assoc, ← List.append_assoc]
              ((try simp only [List.set_cons_succ, List.set_cons_zero] at hS); replace hS := hS.sel [0, 1, 4, 5, 6, 7] 8 (by decide) (by decide) (by simp); simp only [List.filterMap_cons, List.filterMap_nil, List.getElem?_cons_succ, List.getElem?_cons_zero, List.drop_succ_cons, List.drop_zero, List.cons_append, List.nil_append] at hS)
              exact WrSt.mk (HPUT.out _ [_, _] hS)
            case measure => simp [intOf]; omega
      · obtain rfl : i = σ.l.length := by omega
        obtain ⟨aw, cw, hS⟩ := hW
        go_wp2_with (first | ((with_reducible show WGd ..); (with_reducible apply wpA_guard); exact rfl; skip) | ((with_reducible show WLn ..); (with_reducible apply wpA_lenMap hS 3); exact rfl; exact rfl; exact Try.underlying59) | ((with_reducible show WLd ..); (with_reducible apply wpA_load); exact rfl; (first | ((with_reducible apply St.cellI hS); (focus repeat constructor); exact rfl) | assumption); kernel_rfl) | ((with_reducible show WSt ..); (with_reducible apply wpA_store1I hS); exact rfl; (focus repeat constructor); exact rfl; exact rfl; exact rfl; exact rfl; kernel_rfl; intro wx hS; (try simp only [Act.put, List.setIfInBounds_toArray, List.set_cons_zero, List.set_cons_succ]); (try simp only [Act.eval, Array.getD_eq_getD_getElem?, List.getElem?_toArray, List.getElem?_cons_succ, List.getElem?_cons_zero, Option.getD_some, List.set_cons_succ, List.set_cons_zero, Value.cells, List.toList_toArray] at hS)) | ((with_reducible show WBx ..); (with_reducible apply wpA_box hS); exact rfl; exact rfl; intro _ wx hS; (try simp only [Act.put, List.setIfInBounds_toArray, List.set_cons_zero, List.set_cons_succ]); (try simp only [Act.eval, Array.getD_eq_getD_getElem?, List.getElem?_toArray, List.getElem?_cons_succ, List.getElem?_cons_zero, Option.getD_some, List.set_cons_succ, List.set_cons_zero, Value.cells, List.toList_toArray] at hS)))
        go_meet
        exact WrSt.mk hS
  case rest =>
    clear hW
    obtain ⟨aw, cw, hS⟩ := hcut
    have hpl := preE_len OK.out (Nat.le_refl σ.l.length)
    have hbc : (intB (σ.c.length : Int)).length ≤ 10 := intB_len (by unfold I64; omega)
    obtain ⟨N, hN⟩ : ∃ N, clisE σ = N := ⟨_, rfl⟩
    have hNl : N.length = σ.c.length := by rw [← hN, (clisE_perm σ).length_eq, List.length_map]
    have hsrt : ∀ (w : World) (A B : Hp) (H : List Hp), St w0 w (A :: B :: sc p ml mc :: .mp ml (.int .i64) (Z.mapIdx kvI) :: .mp mc (.int .i64) (σ.c.map kvC) :: H) → Calls Try.prog 32 #[.func (.func 48) #[] #[.pointer (some ⟨w.heap.size, 0, none⟩)]] (w.alloc (.cells #[.map (some mc)] 60)) fun e w' =>
        ∃ ao cap, e = .returned (.slice ao N.length cap) ∧ St w0 w' (.row 3 1 ao N.length cap (N.map (Value.int .i64)) :: A :: B :: sc p ml mc :: .mp ml (.int .i64) (Z.mapIdx kvI) :: .mp mc (.int .i64) (σ.c.map kvC) :: H) := by
      intro w A B H h
      have h1 := sorted_keysI_c h 4 (names := σ.c.map (·.1)) rfl (by rw [List.map_map, List.map_map]; rfl) (by rw [List.length_map]; omega) (fun s hs => by
        obtain ⟨x, hx, rfl⟩ := List.mem_map.1 hs
        have h2 := (OK.out.c x hx).1
        unfold I64 at h2
        simp [Lit.wf, IntKind.min, IntKind.max, IntKind.signed, IntKind.bits]
        omega)
      have h2 : sortIK (σ.c.map (·.1)) = N := hN
      rw [h2, List.length_map, ← hNl] at h1
      exact h1
    have HSR := Lib.hid hsrt
    have HN := Lib.hid hN
    have hNb : N.length ≤ 1000000 := by omega
    clear hsrt hN hNl
    go_upto_region 21 with (first | ((with_reducible show WGd ..); (with_reducible apply wpA_guard); exact rfl; skip) | ((with_reducible show WLn ..); (with_reducible apply wpA_lenMap hS 4); exact rfl; exact rfl; exact Try.underlying60) | (go_at_call 36; (with_reducible refine (wrint_c w0 _ _ gw _ _ (WrSt.mk hS) (by first | omega | (constructor <;> omega)) (by (try simp only [List.length_append]); omega)).mono ?_); rintro _ _ ⟨rfl, aw, cw, hS⟩) | (go_at_call 33; (with_reducible refine (callsIn_wide.1 (Try.imaps_Keys_33 (some mc) _)).mono ?_); rintro _ _ ⟨rfl, rfl⟩) | (go_at_call 32; refine (HSR.out _ _ _ _ hS).mono ?_; rintro _ wx ⟨aN, capN, rfl, hS⟩) | ((with_reducible show WLd ..); (with_reducible apply wpA_load); exact rfl; (first | ((with_reducible apply St.cellI hS); (focus repeat constructor); exact rfl) | assumption); kernel_rfl) | ((with_reducible show WSt ..); (with_reducible apply wpA_store1I hS); exact rfl; (focus repeat constructor); exact rfl; exact rfl; exact rfl; exact rfl; kernel_rfl; intro wx hS; (try simp only [Act.put, List.setIfInBounds_toArray, List.set_cons_zero, List.set_cons_succ]); (try simp only [Act.eval, Array.getD_eq_getD_getElem?, List.getElem?_toArray, List.getElem?_cons_succ, List.getElem?_cons_zero, Option.getD_some, List.set_cons_succ, List.set_cons_zero, Value.cells, List.toList_toArray] at hS)) | ((with_reducible show WBx ..); (with_reducible apply wpA_box hS); exact rfl; exact rfl; intro _ wx hS; (try simp only [Act.put, List.setIfInBounds_toArray, List.set_cons_zero, List.set_cons_succ]); (try simp only [Act.eval, Array.getD_eq_getD_getElem?, List.getElem?_toArray, List.getElem?_cons_succ, List.getElem?_cons_zero, Option.getD_some, List.set_cons_succ, List.set_cons_zero, Value.cells, List.toList_toArray] at hS)))
    rw [← preC_zero] at hS
    ((try simp only [List.set_cons_succ, List.set_cons_zero] at hS); replace hS := hS.sel [1, 2, 0, 3, 4, 5] 6 (by decide) (by decide) (by simp); simp only [List.filterMap_cons, List.filterMap_nil, List.getElem?_cons_succ, List.getElem?_cons_zero, List.drop_succ_cons, List.drop_zero, List.cons_append, List.nil_append] at hS)
    have hW := WrSt.mk hS
    clear hS
    go_wp2_with (first | ((with_reducible show WGd ..); (with_reducible apply wpA_guard); exact rfl; skip) | ((with_reducible show WLd ..); (with_reducible apply wpA_load); exact rfl; (first | ((with_reducible apply St.cellI hS); (focus repeat constructor); exact rfl) | assumption); kernel_rfl) | ((with_reducible show WSt ..); (with_reducible apply wpA_store1I hS); exact rfl; (focus repeat constructor); exact rfl; exact rfl; exact rfl; exact rfl; kernel_rfl; intro wx hS; (try simp only [Act.put, List.setIfInBounds_toArray, List.set_cons_zero, List.set_cons_succ]); (try simp only [Act.eval, Array.getD_eq_getD_getElem?, List.getElem?_toArray, List.getElem?_cons_succ, List.getElem?_cons_zero, Option.getD_some, List.set_cons_succ, List.set_cons_zero, Value.cells, List.toList_toArray] at hS)) | ((with_reducible show WBx ..); (with_reducible apply wpA_box hS); exact rfl; exact rfl; intro _ wx hS; (try simp only [Act.put, List.setIfInBounds_toArray, List.set_cons_zero, List.set_cons_succ]); (try simp only [Act.eval, Array.getD_eq_getD_getElem?, List.getElem?_toArray, List.getElem?_cons_succ, List.getElem?_cons_zero, Option.getD_some, List.set_cons_succ, List.set_cons_zero, Value.cells, List.toList_toArray] at hS)))
    go_loopw [101] (fun v wr => ∃ i : Nat, i ≤ N.length ∧ v = .int .i64 i ∧ WrSt w0 wr gw (preC σ i) (.row 3 1 aN N.length capN (N.map (Value.int .i64)) :: sc p ml mc :: .mp ml (.int .i64) (Z.mapIdx kvI) :: .mp mc (.int .i64) (σ.c.map kvC) :: (Z.flatMap shp ++ R))) (fun v _ => N.length - (intOf v).toNat)
    case atStart => exact ⟨0, Nat.zero_le _, rfl, hW⟩
    case round =>
      clear hW
      obtain ⟨i, hi, rfl, hW⟩ := hrel
      have hpc := preC_len OK.out i
      obtain ⟨aw, cw, hS⟩ := hW
      by_cases hlt : i < N.length
      · obtain ⟨c, hc⟩ : ∃ c, N[i]? = some c := ⟨_, List.getElem?_eq_getElem hlt⟩
        rcases row_head (hS.at_ 2 rfl) with ⟨_, hh, _⟩ | ⟨⟨gN, rfl⟩, _⟩
        · omega
        have hco := clisE_ok OK.out c (by rw [HN.out]; exact List.mem_of_getElem? hc)
        have hlo := latS_ok OK.out c
        have hb1 := intB_len hco
        have hb2 := intB_len hlo.1
        have hb3 := intB_len hlo.2
        obtain ⟨c1, c2⟩ := hco
        obtain ⟨⟨a1, a2⟩, ⟨a3, a4⟩⟩ := hlo
        obtain ⟨r, hr, hrv⟩ := lat_look σ c
        have hsu := preC_succ (σ := σ) (i := i) (c := c) (by rw [HN.out]; exact hc)
        have HSU := Lib.hid hsu
        have HR := Lib.hid hr
        have HC : Hid ((N.map (Value.int .i64))[i]? = some (.int .i64 c)) := Lib.hid (by rw [List.getElem?_map, hc]; rfl)
        generalize (latS σ c).1 = lf at *
        generalize (latS σ c).2 = lid at *
        clear hc hsu hr
        go_wp2_with (first | ((with_reducible show WGd ..); (with_reducible apply wpA_guard); exact rfl; skip) | ((with_reducible show WLd ..); (with_reducible apply wpA_load); exact rfl; exact row_cell (hS.at_ 2 rfl) i HC.out; kernel_rfl) | (go_at_call 36; (with_reducible refine (wrint_c w0 _ _ gw _ _ (WrSt.mk hS) (by first | omega | (constructor <;> omega)) (by (try simp only [List.length_append]); omega)).mono ?_); rintro _ _ ⟨rfl, aw, cw, hS⟩) | ((with_reducible show WLk ..); (with_reducible apply wpA_lookup hS 5 (z := .agg #[.int .i64 0, .int .i64 0]) (r := r)); exact rfl; exact rfl; exact rfl; exact Try.underlying60; exact Try.underlying3; exact rfl; kernel_rfl; exact HR.out; simp only [Bool.false_eq_true, if_false, hrv]) | ((with_reducible show wpList _ _ _ (⟨_, .field _ _ _, _, _, _, none⟩ :: _) _ _); (with_reducible apply wpA_field); exact rfl; exact rfl; kernel_rfl; (try simp only [Act.put, List.setIfInBounds_toArray, List.set_cons_zero, List.set_cons_succ])) | ((with_reducible show WLd ..); (with_reducible apply wpA_load); exact rfl; (first | ((with_reducible apply St.cellI hS); (focus repeat constructor); exact rfl) | assumption); kernel_rfl) | ((with_reducible show WSt ..); (with_reducible apply wpA_store1I hS); exact rfl; (focus repeat constructor); exact rfl; exact rfl; exact rfl; exact rfl; kernel_rfl; intro wx hS; (try simp only [Act.put, List.setIfInBounds_toArray, List.set_cons_zero, List.set_cons_succ]); (try simp only [Act.eval, Array.getD_eq_getD_getElem?, List.getElem?_toArray, List.getElem?_cons_succ, List.getElem?_cons_zero, Option.getD_some, List.set_cons_succ, List.set_cons_zero, Value.cells, List.toList_toArray] at hS)) | ((with_reducible show WBx ..); (with_reducible apply wpA_box hS); exact rfl; exact rfl; intro _ wx hS; (try simp only [Act.put, List.setIfInBounds_toArray, List.set_cons_zero, List.set_cons_succ]); (try simp only [Act.eval, Array.getD_eq_getD_getElem?, List.getElem?_toArray, List.getElem?_cons_succ, List.getElem?_cons_zero, Option.getD_some, List.set_cons_succ, List.set_cons_zero, Value.cells, List.toList_toArray] at hS)))
        refine ⟨?rel, ?measure⟩
        case rel => exact ⟨i + 1, by omega, by go_num, by rw [HSU.out]; exact WrSt.mk hS⟩
        case measure => simp [intOf]; omega
      · obtain rfl : i = N.length := by omega
        go_wp2_with (first | ((with_reducible show WGd ..); (with_reducible apply wpA_guard); exact rfl; skip) | (go_at_call 39; (with_reducible refine (wrstr_c w0 _ _ gw _ (WrSt.mk hS)).mono ?_); rintro _ _ ⟨rfl, hW⟩) | ((with_reducible show WLd ..); (with_reducible apply wpA_load); exact rfl; (first | ((with_reducible apply St.cellI hS); (focus repeat constructor); exact rfl) | assumption); kernel_rfl) | ((with_reducible show WSt ..); (with_reducible apply wpA_store1I hS); exact rfl; (focus repeat constructor); exact rfl; exact rfl; exact rfl; exact rfl; kernel_rfl; intro wx hS; (try simp only [Act.put, List.setIfInBounds_toArray, List.set_cons_zero, List.set_cons_succ]); (try simp only [Act.eval, Array.getD_eq_getD_getElem?, List.getElem?_toArray, List.getElem?_cons_succ, List.getElem?_cons_zero, Option.getD_some, List.set_cons_succ, List.set_cons_zero, Value.cells, List.toList_toArray] at hS)) | ((with_reducible show WBx ..); (with_reducible apply wpA_box hS); exact rfl; exact rfl; intro _ wx hS; (try simp only [Act.put, List.setIfInBounds_toArray, List.set_cons_zero, List.set_cons_succ]); (try simp only [Act.eval, Array.getD_eq_getD_getElem?, List.getElem?_toArray, List.getElem?_cons_succ, List.getElem?_cons_zero, Option.getD_some, List.set_cons_succ, List.set_cons_zero, Value.cells, List.toList_toArray] at hS)))
        go_ret
        have hpa := preC_all σ
        rw [HN.out] at hpa
        rw [hpa]
        exact ⟨rfl, ⟨ml, mc, Z, HZ.out.1, hW.rest.tail⟩⟩
end Go.Proofs.Ytodojllclghoiaa
