-- PRINTED by print.py (a twelfth state) out of the translation. Not trusted: Lean checks it.
import Derived.Test.YtlhhcjlcaacfpaaPx0
import Derived.Test.YtlhhcjlcaacfpaaPx19
namespace Go.Proofs.Ytlhhcjlcaacfpaa.P
open Go.RowKit Go.Proofs.YtlhhcjlcaacfpaaW.PrintWords Go.Proofs.YtlhhcjlcaacfpaaW.PrintLast Go.Proofs.YtlhhcjlcaacfpaaW.PrintMore Go.Proofs.YtlhhcjlcaacfpaaH Go.Proofs.YtlhhcjlcaacfpaaR Go.Proofs.YtlhhcjlcaacfpaaM
attribute [local go_sem] max2_int min2_int max_two min_two max_three min_three max_four min_four   -- for this text's walks alone
set_option linter.unusedVariables false
set_option linter.unusedSimpArgs false

/-! ### block_Find: function 44 -/
def inBlk (n : Int) (b : S99) : Bool := decide (b.f0.f0 ≤ n) && decide (n < b.f0.f1)
def findIx (n : Int) : List S99 → Int
  | [] => -1
  | b :: l => if inBlk n b then 0 else if findIx n l < 0 then -1 else findIx n l + 1
theorem findIx_ge (n : Int) : ∀ l : List S99, -1 ≤ findIx n l
  | [] => by simp [findIx]
  | b :: l => by
    have := findIx_ge n l
    unfold findIx
    split
    · omega
    · split <;> omega
theorem findIx_lt (n : Int) : ∀ l : List S99, findIx n l < l.length
  | [] => by simp [findIx]
  | b :: l => by
    have := findIx_lt n l
    unfold findIx
    simp only [List.length_cons]
    split
    · omega
    · split <;> omega
theorem block_Find.c54 (b : S99) (n : Int) (B : Nat) (w : World) (hB : w.heap[B]? = some (.cells #[.int .i64 n] 3 (0, 0))) :
    Calls Try.prog 54 #[blkV b, .pointer (some ⟨B, 0, none⟩)] w fun e w' => e = .returned (.bool (inBlk n b)) ∧ Below w.heap.size w w' := by
  obtain ⟨⟨x, y⟩, c⟩ := b
  have d0 : w.cell? ⟨B, 0, none⟩ = some (.int .i64 n) := blk_cell hB 0
  have c0 : ∀ o, (w.alloc o).cell? ⟨B, 0, none⟩ = some (.int .i64 n) := fun o => pw_cell_below (below_alloc (Below.refl _ _) o) (blk_cell hB 0)
  clear hB
  by_cases h1 : x ≤ n <;> by_cases h2 : n < y
  all_goals
    go_enter Try.func54, Try.ntmps54
    go_wp2
    go_ret
    exact ⟨by simp [inBlk, h1, h2], by repeat (first | exact Below.refl _ _ | apply below_alloc | apply pw_below_drewN | apply below_drew1)⟩
theorem block_Find.c53 (A0 : Option Addr) (c0 : Nat) (l0 : List S99) (n : Int) (B : Nat) (w : World) (hr0 : Kd.C k99 w A0 l0.length l0) (hc0 : l0.length ≤ c0) (hB : w.heap[B]? = some (.cells #[.int .i64 n] 3 (0, 0))) :
    Calls Try.prog 53 #[.slice A0 l0.length c0, .func (.func 54) #[] #[.pointer (some ⟨B, 0, none⟩)]] w fun e w' => e = .returned (.int .i64 (findIx n l0)) ∧ Below w.heap.size w w' := by
  have hm0 := Kd.C_max hr0
  have HR0 := Aside0.mk hr0
  clear hr0
  have HBB := Aside0.mk hB
  clear hB
  go_enter Try.func53, Try.ntmps53
  go_wp2
  go_loopw [8] (fun v wr => ∃ (i : Nat), v = .int .i64 (i : Int) ∧ i ≤ l0.length ∧ Aside0 (findIx n l0 = if findIx n (l0.drop i) < 0 then -1 else findIx n (l0.drop i) + i) ∧ Below w.heap.size w wr) (fun v _ => (l0.length - intOf v).toNat)
  case atStart => exact ⟨0, rfl, by omega, ⟨by simp only [List.drop_zero]; have := findIx_ge n l0; split <;> omega⟩, Below.refl _ _⟩
  case round =>
    obtain ⟨i, rfl, hi, HE, hb0⟩ := hrel
    by_cases hlt : i < l0.length
    · obtain ⟨ad, e, hu0, hu1, hu2⟩ := at_T99 (Kd.C_below HR0.out hb0) (i : Int) (by omega) (by omega)
      cases e
      rw [Int.toNat_natCast] at hu0 hu1 hu2
      have hdrop : l0.drop i = rd_T99 l0 i :: l0.drop (i + 1) := by
        rw [List.drop_eq_getElem_cons hlt]
        simp [rd_T99, hlt]
      generalize hx : rd_T99 l0 (i : Int) = x at hu0 hu1 hu2 hdrop
      have HDR := Aside0.mk hdrop
      clear hx hdrop
      have HC := Aside0.mk (block_Find.c54 x n B wr ((hb0.block _ (blk_lt HBB.out)).trans HBB.out))
      cases hb : inBlk n x with
      | true =>
        go_wp2_with (go_at_call 54; refine HC.out.mono ?_; rw [hb]; rintro e w2 ⟨rfl, hk2⟩)
        go_ret
        refine ⟨?_, hb0.trans (hk2.mono hb0.size)⟩
        have h := HE.out
        rw [HDR.out] at h
        simp [findIx, hb] at h
        rw [h]
        rfl
      | false =>
        go_wp2_with (go_at_call 54; refine HC.out.mono ?_; rw [hb]; rintro e w2 ⟨rfl, hk2⟩)
        go_roundw
        case rel =>
          refine ⟨i + 1, by go_num, by omega, ⟨?_⟩, hb0.trans (hk2.mono hb0.size)⟩
          have h := HE.out
          rw [HDR.out] at h
          have hg := findIx_ge n (l0.drop (i + 1))
          simp only [findIx, hb, Bool.false_eq_true, if_false] at h
          rw [h]
          split <;> split <;> omega
        case measure => simp [intOf]; omega
    · have hx : i = l0.length := by omega
      go_wp2
      go_ret
      refine ⟨?_, by repeat (first | exact hb0 | apply pw_below_drewN)⟩
      have h := HE.out
      rw [hx, List.drop_length] at h
      simp [findIx] at h
      rw [h]
      rfl
def block_Find.f (l0 : List (S99)) (a1 : Int) : Option (Int × Bool) := some (if findIx a1 l0 < 0 then (0, false) else if mapB l0 then ((rd_T99 l0 (findIx a1 l0)).f1, true) else (0, false))
theorem block_Find.calls (A0 : Option Addr) (c0 : Nat) (l0 : List (S99)) (a1 : Int) (r1 : Int) (r2 : Bool) (w : World) (hr0 : Kd.C k99 w A0 l0.length l0) (hc0 : l0.length ≤ c0) (h : block_Find.f l0 a1 = some (r1, r2)) :
    Calls Try.prog 44 #[.slice A0 l0.length c0, .int .i64 a1] w fun e w' => e = .returned (.tuple #[.int .i64 r1, .bool r2]) ∧ Below w.heap.size w w' := by
  unfold block_Find.f at h
  have hf := Option.some.inj h
  have HR0 := Aside0.mk hr0
  clear h hr0
  have hlen := findIx_lt a1 l0
  obtain ⟨k, hk⟩ : ∃ k, k = findIx a1 l0 := ⟨_, rfl⟩
  rw [← hk] at hf hlen
  have HKK := Aside0.mk hk
  clear hk
  by_cases h1 : k < 0
  · rw [if_pos h1] at hf
    have h1b : decide (k < 0) = true := decide_eq_true h1
    simp only [Prod.mk.injEq] at hf
    obtain ⟨rfl, rfl⟩ := hf
    go_enter Try.func44, Try.ntmps44
    go_wp2_with (first
      | (go_at_call 53; refine (block_Find.c53 _ _ _ a1 w.heap.size _ (Kd.C_below HR0.out (by repeat (first | exact Below.refl _ _ | apply below_alloc | apply pw_below_drewN | apply below_drew1))) hc0 (blk_new _ _)).mono ?_; rw [← HKK.out]; rintro e w2 ⟨rfl, hk2⟩; have HK2 := Aside0.mk ((below_alloc (Below.refl w.heap.size w) _).trans (hk2.mono (below_alloc (Below.refl w.heap.size w) _).size)); clear hk2)
      | (go_at_call 55; refine (block_Valid.calls _ _ _ (mapB l0) _ (Kd.C_below HR0.out (by repeat (first | exact HK2.out | apply below_alloc | apply pw_below_drewN | apply below_drew1))) hc0 rfl).mono ?_; rw [hm]; rintro e w3 ⟨rfl, hk3⟩; have HK3 := Aside0.mk (below_step HK2.out hk3); clear hk3; (try have hz := pw_cell_below HK3.out hu2)))
    go_ret2
    exact ⟨rfl, by repeat (first | exact HK2.out | apply below_alloc | apply pw_below_drewN | apply below_drew1)⟩
  · rw [if_neg h1] at hf
    have h1b : decide (k < 0) = false := decide_eq_false h1
    cases hm : mapB l0 with
    | false =>
      rw [hm, if_neg (by decide)] at hf
      simp only [Prod.mk.injEq] at hf
      obtain ⟨rfl, rfl⟩ := hf
      go_enter Try.func44, Try.ntmps44
      go_wp2_with (first
      | (go_at_call 53; refine (block_Find.c53 _ _ _ a1 w.heap.size _ (Kd.C_below HR0.out (by repeat (first | exact Below.refl _ _ | apply below_alloc | apply pw_below_drewN | apply below_drew1))) hc0 (blk_new _ _)).mono ?_; rw [← HKK.out]; rintro e w2 ⟨rfl, hk2⟩; have HK2 := Aside0.mk ((below_alloc (Below.refl w.heap.size w) _).trans (hk2.mono (below_alloc (Below.refl w.heap.size w) _).size)); clear hk2)
      | (go_at_call 55; refine (block_Valid.calls _ _ _ (mapB l0) _ (Kd.C_below HR0.out (by repeat (first | exact HK2.out | apply below_alloc | apply pw_below_drewN | apply below_drew1))) hc0 rfl).mono ?_; rw [hm]; rintro e w3 ⟨rfl, hk3⟩; have HK3 := Aside0.mk (below_step HK2.out hk3); clear hk3; (try have hz := pw_cell_below HK3.out hu2)))
      go_ret2
      exact ⟨rfl, by repeat (first | exact HK3.out | exact HK2.out | apply below_alloc | apply pw_below_drewN | apply below_drew1)⟩
    | true =>
      rw [hm, if_pos rfl] at hf
      simp only [Prod.mk.injEq] at hf
      obtain ⟨rfl, rfl⟩ := hf
      obtain ⟨ad, e, hu0, hu1, hu2⟩ := at_T99 HR0.out k (by omega) (by omega)
      cases e
      have h1c : 0 ≤ k := by omega
      go_enter Try.func44, Try.ntmps44
      go_wp2_with (first
        | (go_at_call 53; refine (block_Find.c53 _ _ _ a1 w.heap.size _ (Kd.C_below HR0.out (by repeat (first | exact Below.refl _ _ | apply below_alloc | apply pw_below_drewN | apply below_drew1))) hc0 (blk_new _ _)).mono ?_; rw [← HKK.out]; rintro e w2 ⟨rfl, hk2⟩; have HK2 := Aside0.mk ((below_alloc (Below.refl w.heap.size w) _).trans (hk2.mono (below_alloc (Below.refl w.heap.size w) _).size)); clear hk2)
        | (go_at_call 55; refine (block_Valid.calls _ _ _ (mapB l0) _ (Kd.C_below HR0.out (by repeat (first | exact HK2.out | apply below_alloc | apply pw_below_drewN | apply below_drew1))) hc0 rfl).mono ?_; rw [hm]; rintro e w3 ⟨rfl, hk3⟩; have HK3 := Aside0.mk (below_step HK2.out hk3); clear hk3; (try have hz := pw_cell_below HK3.out hu2)))
      go_ret2
      exact ⟨rfl, by repeat (first | exact HK3.out | exact HK2.out | apply below_alloc | apply pw_below_drewN | apply below_drew1)⟩
end Go.Proofs.Ytlhhcjlcaacfpaa.P
