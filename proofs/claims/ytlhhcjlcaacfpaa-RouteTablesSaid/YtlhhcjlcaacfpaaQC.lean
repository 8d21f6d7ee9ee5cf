/- Printed parts of this claim, joined. -/
import Derived.Test.YtlhhcjlcaacfpaaPx0
import Derived.Test.YtlhhcjlcaacfpaaQB
namespace Go.Proofs.Ytlhhcjlcaacfpaa.P
open Go.RowKit Go.Proofs.YtlhhcjlcaacfpaaW.PrintWords Go.Proofs.YtlhhcjlcaacfpaaW.PrintLast Go.Proofs.YtlhhcjlcaacfpaaW.PrintMore Go.Proofs.YtlhhcjlcaacfpaaH Go.Proofs.YtlhhcjlcaacfpaaR Go.Proofs.YtlhhcjlcaacfpaaM
attribute [local go_sem] max2_int min2_int max_two min_two max_three min_three max_four min_four   -- for this text's walks alone
set_option linter.unusedVariables false
set_option linter.unusedSimpArgs false

/-! ### dialtonelaw24_example: function 13 -/
def dialtonelaw24_example.f  : Option (List Int × List Int) := some ((([0, 1, 1, 2] : List Int)), (([1, 3, 3, 0, 2, (-1), 1, 1] : List Int)))
set_option maxHeartbeats 8000000 in
set_option maxRecDepth 100000 in
theorem dialtonelaw24_example.calls  (r1 : List Int) (r2 : List Int) (w : World) (h : dialtonelaw24_example.f  = some (r1, r2)) :
  Calls Try.prog 13 #[] w fun e w' => ∃ v0_ v1_ : Value, e = .returned (.tuple #[v0_, v1_]) ∧ Kd.R (Kd.int .i64) 3 w' w.heap.size (fun k_ => some k_ ≠ (v1_ : Value).ownBlock) v0_ r1 ∧ Kd.R (Kd.int .i64) 3 w' w.heap.size (fun k_ => some k_ ≠ (v0_ : Value).ownBlock) v1_ r2 ∧ Below w.heap.size w w' := by
 have HB := Aside0.mk (Below.refl w.heap.size w)
 have H : (some ((([0, 1, 1, 2] : List Int)), (([1, 3, 3, 0, 2, (-1), 1, 1] : List Int)))) = some (r1, r2) := h
 clear h
 obtain ⟨y104, hy104⟩ : ∃ y_ : List Int, y_ = (([0, 1, 1, 2] : List Int)) := ⟨_, rfl⟩
 replace H : (some (y104, (([1, 3, 3, 0, 2, (-1), 1, 1] : List Int)))) = some (r1, r2) := by first | (rw [hy104]; with_reducible exact H) | (have H2_ := (Option.bind_some _ _).symm.trans H; rw [hy104]; with_reducible exact H2_) | (have H2_ := (Option.bind_some _ _).symm.trans H; with_reducible exact H2_) | with_reducible exact H | (rw [hy104]; exact H) | exact H
 have Ny104 := Aside0.mk hy104
 clear hy104
 obtain ⟨y107, hy107⟩ : ∃ y_ : List Int, y_ = (([1, 3, 3, 0, 2, (-1), 1, 1] : List Int)) := ⟨_, rfl⟩
 replace H : (some (y104, y107)) = some (r1, r2) := by first | (rw [hy107]; with_reducible exact H) | (have H2_ := (Option.bind_some _ _).symm.trans H; rw [hy107]; with_reducible exact H2_) | (have H2_ := (Option.bind_some _ _).symm.trans H; with_reducible exact H2_) | with_reducible exact H | (rw [hy107]; exact H) | exact H
 have Ny107 := Aside0.mk hy107
 clear hy107
 simp only [Option.some.injEq, Prod.mk.injEq] at H
 obtain ⟨rfl, rfl⟩ := H
 go_enter Try.func13, Try.ntmps13
 go_wp2_with (first | ((with_reducible refine gate_dst (N := 2) rfl ?_); refine Kd.R_lit (Kd.int .i64) _ 3 ?hg (N := 2) ?hd (xs := ([0, 1, 1, 2] : List Int)) (inner := [.int .i64 0, .int .i64 1, .int .i64 1, .int .i64 2]) (ok := fun _ => True) (okp := fun _ => True) ?hr ?hp (fun _ hk => hk) trivial (Below.refl _ _) (Nat.le_refl _) (by simp) ?_; (case hd => rfl); (case hg => rfl); (case hr => first | (go_simp; done) | (go_simp; rfl)); (case hp => exact (Reps.one (show Kd.M (Kd.int .i64) _ _ _ 0 [.int .i64 0] from rfl) (Reps.one (show Kd.M (Kd.int .i64) _ _ _ 1 [.int .i64 1] from rfl) (Reps.one (show Kd.M (Kd.int .i64) _ _ _ 1 [.int .i64 1] from rfl) (Reps.one (show Kd.M (Kd.int .i64) _ _ _ 2 [.int .i64 2] from rfl) (Reps.none _ _)))))); intro v105 w1 ho2 hb hg_ hnew_; clear hg_ hnew_; (first | rw [← Ny104.out] at ho2 | (simp only [Int.reduceToNat] at ho2; rw [← Ny104.out] at ho2)); have n0_ := Aside0.mk (Kd.R_lower ho2 (below_size (by repeat (first | (with_reducible first | exact HB.out | apply below_alloc | apply pw_below_drewN | apply below_drew1) | exact HB.out)))); have n1_ := Aside0.mk (below_step (by repeat (first | (with_reducible first | exact HB.out | apply below_alloc | apply pw_below_drewN | apply below_drew1) | exact HB.out)) hb); clear HB; have HO106 := n0_; have HB := n1_; clear n0_ n1_; clear hb ho2) | ((with_reducible refine gate_dst (N := 3) rfl ?_); refine Kd.R_lit (Kd.int .i64) _ 3 ?hg (N := 3) ?hd (xs := ([1, 3, 3, 0, 2, (-1), 1, 1] : List Int)) (inner := [.int .i64 1, .int .i64 3, .int .i64 3, .int .i64 0, .int .i64 2, .int .i64 (-1), .int .i64 1, .int .i64 1]) (ok := fun _ => True) (okp := fun _ => True) ?hr ?hp (fun _ hk => hk) trivial (Below.refl _ _) (Nat.le_refl _) (by simp) ?_; (case hd => rfl); (case hg => rfl); (case hr => first | (go_simp; done) | (go_simp; rfl)); (case hp => exact (Reps.one (show Kd.M (Kd.int .i64) _ _ _ 1 [.int .i64 1] from rfl) (Reps.one (show Kd.M (Kd.int .i64) _ _ _ 3 [.int .i64 3] from rfl) (Reps.one (show Kd.M (Kd.int .i64) _ _ _ 3 [.int .i64 3] from rfl) (Reps.one (show Kd.M (Kd.int .i64) _ _ _ 0 [.int .i64 0] from rfl) (Reps.one (show Kd.M (Kd.int .i64) _ _ _ 2 [.int .i64 2] from rfl) (Reps.one (show Kd.M (Kd.int .i64) _ _ _ (-1) [.int .i64 (-1)] from rfl) (Reps.one (show Kd.M (Kd.int .i64) _ _ _ 1 [.int .i64 1] from rfl) (Reps.one (show Kd.M (Kd.int .i64) _ _ _ 1 [.int .i64 1] from rfl) (Reps.none _ _)))))))))); intro v108 w3 ho4 hb hg_ hnew_; clear hg_ hnew_; (first | rw [← Ny107.out] at ho4 | (simp only [Int.reduceToNat] at ho4; rw [← Ny107.out] at ho4)); have n0_ := Aside0.mk (Kd.R_elder' (by (with_reducible repeat (first | apply Kd.R_alloc | apply Kd.R_drewN | apply Kd.R_drew)); exact HO106.out) (Kd.R_base ho4) hb); have n1_ := Aside0.mk (Kd.R_lower (Kd.R_new' ho4 (Kd.R_lt (by (with_reducible repeat (first | apply Kd.R_alloc | apply Kd.R_drewN | apply Kd.R_drew)); exact HO106.out))) (below_size (by repeat (first | (with_reducible first | exact HB.out | apply below_alloc | apply pw_below_drewN | apply below_drew1) | exact HB.out)))); have n2_ := Aside0.mk (below_step (by repeat (first | (with_reducible first | exact HB.out | apply below_alloc | apply pw_below_drewN | apply below_drew1) | exact HB.out)) hb); clear HO106; clear HB; have HO106 := n0_; have HO109 := n1_; have HB := n2_; clear n0_ n1_ n2_; clear hb ho4))
 go_ret2
 exact ⟨_, _, by first | rfl | (simp [errW_none, errW_some] <;> rfl) | (simp [*, errW_none, errW_some] <;> rfl), by (with_reducible repeat (first | apply Kd.R_alloc | apply Kd.R_drewN | apply Kd.R_drew)); exact Kd.R_mono HO106.out (fun _ hk => hk.2), by (with_reducible repeat (first | apply Kd.R_alloc | apply Kd.R_drewN | apply Kd.R_drew)); exact Kd.R_mono HO109.out (fun _ hk => hk.2), by repeat (first | (with_reducible first | exact HB.out | apply below_alloc | apply pw_below_drewN | apply below_drew1) | exact HB.out)⟩

end Go.Proofs.Ytlhhcjlcaacfpaa.P
namespace Go.Proofs.Ytlhhcjlcaacfpaa.P
open Go.RowKit Go.Proofs.YtlhhcjlcaacfpaaW.PrintWords Go.Proofs.YtlhhcjlcaacfpaaW.PrintLast Go.Proofs.YtlhhcjlcaacfpaaW.PrintMore Go.Proofs.YtlhhcjlcaacfpaaH Go.Proofs.YtlhhcjlcaacfpaaR Go.Proofs.YtlhhcjlcaacfpaaM
attribute [local go_sem] max2_int min2_int max_two min_two max_three min_three max_four min_four   -- for this text's walks alone
set_option linter.unusedVariables false
set_option linter.unusedSimpArgs false

/-! ### slices_Clone_int_int: function 34 -/
def slices_Clone_int_int.f (l0 : List Int) : Option (List Int) := if l0.length ≤ 17592186044415 then some l0 else none
theorem slices_Clone_int_int.calls (A0 : Option Addr) (c0 : Nat) (l0 : List Int) (r : List Int) (w : World) (hr0 : Kd.C (Kd.int .i64) w A0 l0.length l0) (hc0 : l0.length ≤ c0) (h : slices_Clone_int_int.f l0 = some r) :
  Calls Try.prog 34 #[.slice A0 l0.length c0] w fun e w' => ∃ v0_ : Value, e = .returned (v0_) ∧ Kd.R (Kd.int .i64) 3 w' w.heap.size (fun _ => True) v0_ r ∧ Below w.heap.size w w' := by
 unfold slices_Clone_int_int.f at h
 by_cases hl : l0.length ≤ 17592186044415
 ·rw [if_pos hl] at h
  obtain rfl := Option.some.inj h
  have HR := Aside0.mk hr0
  rcases A0 with _ | ad
  ·have h0 : l0.length = 0 := by
    rcases Nat.eq_zero_or_pos l0.length with h0 | h0
    ·exact h0
    ·obtain ⟨_, e, _⟩ := hr0.2.2 h0; cases e
   have hnil : l0 = [] := List.eq_nil_of_length_eq_zero h0
   subst hnil
   clear hr0 h h0
   have heq := fun w => run_eql_slice_nil (P := Try.prog) w 23 3 none 0 c0 Try.underlying23
   go_enter Try.func34, Try.ntmps34
   go_wp2
   go_ret
   exact ⟨_, rfl, Kd.R_nil _ _ _ _ _, Below.refl _ _⟩
  ·clear hr0 h
   have heq := fun w => run_eql_slice_nil (P := Try.prog) w 23 3 (some ad) l0.length c0 Try.underlying23
   go_enter Try.func34, Try.ntmps34
   go_wp2_with (at_builtin; refine Kd.R_append_rows (Kd.int .i64) (Rr := (Kd.int .i64).K w) (w0 := w) w.heap.size rfl _ _ 23 3 (.int .i64 0) 8 rfl Try.underlying23 info3 rfl (by decide) (by omega) _ [] l0 (some ad) l0.length c0 (fun _ => True) (fun _ => False) rfl rfl ?aO ?aR (fun x cs h => h) (fun _ hk => hk.elim) (fun _ _ => trivial) ?aB ?aS ?aL ?_; (case aO => exact Kd.R_of_own (enc := Value.int .i64) (h1 := fun _ => rfl) (v := .slice (some ⟨w.heap.size, 0, none⟩) 0 0) (own_lit w w.heap.size 3 .i64 [] (Nat.le_refl _) (by simp)) (fun _ _ => trivial)); (case aR => exact Kd.C_alloc HR.out _); (case aB => exact below_alloc (Below.refl _ _) _); (case aS => simp); (case aL => simp; omega); intro v1 w1 ho hb hg hat)
   go_ret
   exact ⟨_, rfl, ho, hb⟩
 ·rw [if_neg hl] at h; cases h
end Go.Proofs.Ytlhhcjlcaacfpaa.P
namespace Go.Proofs.Ytlhhcjlcaacfpaa.P
open Go.RowKit Go.Proofs.YtlhhcjlcaacfpaaW.PrintWords Go.Proofs.YtlhhcjlcaacfpaaW.PrintLast Go.Proofs.YtlhhcjlcaacfpaaW.PrintMore Go.Proofs.YtlhhcjlcaacfpaaH Go.Proofs.YtlhhcjlcaacfpaaR Go.Proofs.YtlhhcjlcaacfpaaM
attribute [local go_sem] max2_int min2_int max_two min_two max_three min_three max_four min_four   -- for this text's walks alone
set_option linter.unusedVariables false
set_option linter.unusedSimpArgs false

/-! ### route_Blame: function 20 -/
def badHop (h : List Int) (n : Nat) (i : Nat) (x y : S39) : Bool :=
 !(inB x.f0 0 7) || !(inB x.f1 0 ((h.length : Int) - 1)) || (decide (0 < i) && (!(x.f0 == rd h y.f1) || decide (x.f1 < y.f1))) || (decide (i + 1 < n) && (rd h x.f1 == x.f0 || rd h x.f1 == -1))
def blameFrom (h : List Int) (n : Nat) : Nat → S39 → List S39 → Int
 | _, _, [] => -1
 | i, y, x :: l => if badHop h n i x y = true then i else blameFrom h n (i + 1) x l
def route_Blame.f (l0 : List Int) (l1 : List S39) : Option Int := some (if holdersB l0 = true ∧ l1 ≠ [] then blameFrom l0 l1.length 0 z39 l1 else -2)
theorem badHop_eq {h : List Int} {n i : Nat} {x y : S39} (b1 : inB x.f0 0 7 = true) (b2 : inB x.f1 0 ((h.length : Int) - 1) = true) (b3 : (decide (0 < i) && (!(x.f0 == rd h y.f1) || decide (x.f1 < y.f1))) = false) :
  badHop h n i x y = (decide (i + 1 < n) && (rd h x.f1 == x.f0 || rd h x.f1 == -1)) := by
 unfold badHop
 rw [b1, b2, b3]
 rfl
set_option maxHeartbeats 8000000 in
theorem route_Blame.c43 (B1 B2 : Nat) (A0 : Option Addr) (c0 : Nat) (l0 : List Int) (A1 : Option Addr) (c1 : Nat) (l1 : List S39) (i : Nat) (x y : S39) (w : World)
  (hr0 : Kd.C (Kd.int .i64) w A0 l0.length l0) (hc0 : l0.length ≤ c0) (hr1 : Kd.C k39 w A1 l1.length l1) (hc1 : l1.length ≤ c1)
  (hb1 : Boxed w B1 23 (.slice A0 l0.length c0)) (hb2 : Boxed w B2 35 (.slice A1 l1.length c1)) (hi : i < l1.length) (hl0 : l0.length ≤ 30)
  (hy : 0 < i → rd_T39 l1 ((i : Int) - 1) = y ∧ inB y.f1 0 ((l0.length : Int) - 1) = true) :
  Calls Try.prog 40 #[.int .i64 (i : Int), .agg #[.int .i64 x.f0, .int .i64 x.f1], .pointer (some ⟨B1, 0, none⟩), .pointer (some ⟨B2, 0, none⟩)] w fun e w' => e = .returned (.bool (badHop l0 l1.length i x y)) ∧ Below w.heap.size w w' := by
 have hm1 := Kd.C_max hr1
 have hcb1 : ∀ o, (w.alloc o).cell? ⟨B1, 0, none⟩ = _ := fun o => (hb1.alloc o).cell
 have hcb2 : ∀ o, (w.alloc o).cell? ⟨B2, 0, none⟩ = _ := fun o => (hb2.alloc o).cell
 have HB1 := Aside0.mk hb1
 have HB2 := Aside0.mk hb2
 have HR0 := Aside0.mk hr0
 have HR1 := Aside0.mk hr1
 clear hb1 hb2 hr0 hr1
 cases h1 : inB x.f0 0 7 with
 | false =>
  have HF := Aside0.mk (show badHop l0 l1.length i x y = true by simp [badHop, h1])
  go_enter Try.func40, Try.ntmps40
  go_wp2_with (go_at_call 35; refine (route_isWithin.calls _ _ _ _ _ (route_isWithin.tells _ _ _)).mono ?_; rintro e w' ⟨rfl, m, rfl⟩)
  go_ret
  exact ⟨by rw [HF.out]; simp, by repeat (first | exact Below.refl _ _ | apply pw_below_drewN | apply below_alloc)⟩
 | true =>
  cases h2 : inB x.f1 0 ((l0.length : Int) - 1) with
  | false =>
   have HF := Aside0.mk (show badHop l0 l1.length i x y = true by simp [badHop, h2])
   go_enter Try.func40, Try.ntmps40
   go_wp2_with (go_at_call 35; refine (route_isWithin.calls _ _ _ _ _ (route_isWithin.tells _ _ _)).mono ?_; rintro e w' ⟨rfl, m, rfl⟩)
   go_ret
   exact ⟨by rw [HF.out]; simp, by repeat (first | exact Below.refl _ _ | apply pw_below_drewN | apply below_alloc)⟩
  | true =>
   have hx1 : 0 ≤ x.f1 := by simp [inB] at h2; omega
   have hx2 : x.f1 < l0.length := by simp [inB] at h2; omega
   obtain ⟨ad, e, hx⟩ := Kd.at_int HR0.out x.f1 hx1 hx2
   cases e
   have hxx : ∀ o, (w.alloc o).cell? (ad.add x.f1.toNat) = _ := fun o => pw_cell_below (below_alloc (Below.refl _ _) o) hx
   clear hx
   have hz := decide_eq_true hx1
   by_cases hi0 : 0 < i
   ·obtain ⟨hy1, hy2⟩ := hy hi0
    have hy3 : 0 ≤ y.f1 := by simp [inB] at hy2; omega
    have hy4 : y.f1 < l0.length := by simp [inB] at hy2; omega
    obtain ⟨_, e, hv⟩ := Kd.at_int HR0.out y.f1 hy3 hy4
    cases e
    have hvv : ∀ o, (w.alloc o).cell? (ad.add y.f1.toNat) = _ := fun o => pw_cell_below (below_alloc (Below.refl _ _) o) hv
    obtain ⟨ad1, e, hu0, hu1⟩ := at_T39 HR1.out ((i : Int) - 1) (by omega) (by omega)
    cases e
    rw [show ((i : Int) - 1).toNat = i - 1 by omega] at hu1
    rw [hy1] at hu1
    have huu : ∀ o, (w.alloc o).cell? ⟨(ad1.add ((i - 1) * 2)).block, (ad1.add ((i - 1) * 2)).off + 1, none⟩ = _ := fun o => pw_cell_below (below_alloc (Below.refl _ _) o) hu1
    have hd0 : decide (0 < (i : Int)) = true := decide_eq_true (by omega)
    have hd1 : decide (0 < i) = true := decide_eq_true hi0
    clear hy hv hu0 hu1
    by_cases c1 : x.f0 = rd l0 y.f1
    ·have hc1b := beq_iff_eq.mpr c1
     have hc1n := bne_eq_false_iff_eq.mpr c1
     have C1 := Aside0.mk c1
     clear c1
     by_cases c2 : x.f1 < y.f1
     ·have hc2 := decide_eq_true c2
      have HF := Aside0.mk (show badHop l0 l1.length i x y = true by simp [badHop, hi0, c2])
      clear c2
      go_enter Try.func40, Try.ntmps40
      go_wp2_with (go_at_call 35; refine (route_isWithin.calls _ _ _ _ _ (route_isWithin.tells _ _ _)).mono ?_; rintro e w' ⟨rfl, m, rfl⟩)
      go_quiet (fail)
      go_wp2
      go_ret
      exact ⟨by rw [HF.out]; simp, by repeat (first | exact Below.refl _ _ | apply pw_below_drewN | apply below_alloc)⟩
     ·have hc2 := decide_eq_false c2
      have B3 : (decide (0 < i) && (!(x.f0 == rd l0 y.f1) || decide (x.f1 < y.f1))) = false := by rw [hd1, hc1b, hc2]; rfl
      clear c2
      by_cases c3 : i + 1 < l1.length
      ·have hc3 : decide ((i : Int) < (l1.length : Int) - 1) = true := decide_eq_true (by omega)
       by_cases c4 : rd l0 x.f1 = x.f0
       ·have hc4b := beq_iff_eq.mpr c4
        have HF := Aside0.mk (show badHop l0 l1.length i x y = true by rw [badHop_eq h1 h2 B3]; simp [c3, c4])
        clear c3 c4 B3
        go_enter Try.func40, Try.ntmps40
        go_wp2_with (go_at_call 35; refine (route_isWithin.calls _ _ _ _ _ (route_isWithin.tells _ _ _)).mono ?_; rintro e w' ⟨rfl, m, rfl⟩)
        go_quiet (fail)
        go_wp2
        go_quiet (fail)
        go_wp2
        go_ret
        exact ⟨by rw [HF.out]; simp, by repeat (first | exact Below.refl _ _ | apply pw_below_drewN | apply below_alloc)⟩
       ·have hc4b := beq_eq_false_iff_ne.mpr c4
        have HF := Aside0.mk (show badHop l0 l1.length i x y = (rd l0 x.f1 == -1) by rw [badHop_eq h1 h2 B3]; simp [c3, c4])
        clear c3 c4 B3
        go_enter Try.func40, Try.ntmps40
        go_wp2_with (go_at_call 35; refine (route_isWithin.calls _ _ _ _ _ (route_isWithin.tells _ _ _)).mono ?_; rintro e w' ⟨rfl, m, rfl⟩)
        go_quiet (fail)
        go_wp2
        go_quiet (fail)
        go_wp2
        go_ret
        exact ⟨by rw [HF.out]; simp, by repeat (first | exact Below.refl _ _ | apply pw_below_drewN | apply below_alloc)⟩
      ·have hc3 : decide ((i : Int) < (l1.length : Int) - 1) = false := decide_eq_false (by omega)
       have HF := Aside0.mk (show badHop l0 l1.length i x y = false by rw [badHop_eq h1 h2 B3]; simp [c3])
       clear c3 B3
       go_enter Try.func40, Try.ntmps40
       go_wp2_with (go_at_call 35; refine (route_isWithin.calls _ _ _ _ _ (route_isWithin.tells _ _ _)).mono ?_; rintro e w' ⟨rfl, m, rfl⟩)
       go_quiet (fail)
       go_wp2
       go_ret
       exact ⟨by rw [HF.out]; simp, by repeat (first | exact Below.refl _ _ | apply pw_below_drewN | apply below_alloc)⟩
    ·have hc1b := beq_eq_false_iff_ne.mpr c1
     have hc1n := bne_iff_ne.mpr c1
     have HF := Aside0.mk (show badHop l0 l1.length i x y = true by simp [badHop, hi0, c1])
     clear c1
     go_enter Try.func40, Try.ntmps40
     go_wp2_with (go_at_call 35; refine (route_isWithin.calls _ _ _ _ _ (route_isWithin.tells _ _ _)).mono ?_; rintro e w' ⟨rfl, m, rfl⟩)
     go_quiet (fail)
     go_wp2
     go_ret
     exact ⟨by rw [HF.out]; simp, by repeat (first | exact Below.refl _ _ | apply pw_below_drewN | apply below_alloc)⟩
   ·have hd0 : decide (0 < (i : Int)) = false := decide_eq_false (by omega)
    have hd1 : decide (0 < i) = false := decide_eq_false hi0
    have B3 : (decide (0 < i) && (!(x.f0 == rd l0 y.f1) || decide (x.f1 < y.f1))) = false := by rw [hd1]; rfl
    clear hy
    by_cases c3 : i + 1 < l1.length
    ·have hc3 : decide ((i : Int) < (l1.length : Int) - 1) = true := decide_eq_true (by omega)
     by_cases c4 : rd l0 x.f1 = x.f0
     ·have hc4b := beq_iff_eq.mpr c4
      have HF := Aside0.mk (show badHop l0 l1.length i x y = true by rw [badHop_eq h1 h2 B3]; simp [c3, c4])
      clear c3 c4 B3
      go_enter Try.func40, Try.ntmps40
      go_wp2_with (go_at_call 35; refine (route_isWithin.calls _ _ _ _ _ (route_isWithin.tells _ _ _)).mono ?_; rintro e w' ⟨rfl, m, rfl⟩)
      go_quiet (fail)
      go_wp2
      go_quiet (fail)
      go_wp2
      go_ret
      exact ⟨by rw [HF.out]; simp, by repeat (first | exact Below.refl _ _ | apply pw_below_drewN | apply below_alloc)⟩
     ·have hc4b := beq_eq_false_iff_ne.mpr c4
      have HF := Aside0.mk (show badHop l0 l1.length i x y = (rd l0 x.f1 == -1) by rw [badHop_eq h1 h2 B3]; simp [c3, c4])
      clear c3 c4 B3
      go_enter Try.func40, Try.ntmps40
      go_wp2_with (go_at_call 35; refine (route_isWithin.calls _ _ _ _ _ (route_isWithin.tells _ _ _)).mono ?_; rintro e w' ⟨rfl, m, rfl⟩)
      go_quiet (fail)
      go_wp2
      go_quiet (fail)
      go_wp2
      go_ret
      exact ⟨by rw [HF.out]; simp, by repeat (first | exact Below.refl _ _ | apply pw_below_drewN | apply below_alloc)⟩
    ·have hc3 : decide ((i : Int) < (l1.length : Int) - 1) = false := decide_eq_false (by omega)
     have HF := Aside0.mk (show badHop l0 l1.length i x y = false by rw [badHop_eq h1 h2 B3]; simp [c3])
     clear c3 B3
     go_enter Try.func40, Try.ntmps40
     go_wp2_with (go_at_call 35; refine (route_isWithin.calls _ _ _ _ _ (route_isWithin.tells _ _ _)).mono ?_; rintro e w' ⟨rfl, m, rfl⟩)
     go_quiet (fail)
     go_wp2
     go_ret
     exact ⟨by rw [HF.out]; simp, by repeat (first | exact Below.refl _ _ | apply pw_below_drewN | apply below_alloc)⟩
set_option maxHeartbeats 8000000 in
theorem route_Blame.c42 (B1 B2 : Nat) (A0 : Option Addr) (c0 : Nat) (l0 : List Int) (A1 : Option Addr) (c1 : Nat) (l1 : List S39) (w : World)
  (hr0 : Kd.C (Kd.int .i64) w A0 l0.length l0) (hc0 : l0.length ≤ c0) (hr1 : Kd.C k39 w A1 l1.length l1) (hc1 : l1.length ≤ c1)
  (hb1 : Boxed w B1 23 (.slice A0 l0.length c0)) (hb2 : Boxed w B2 35 (.slice A1 l1.length c1)) (hl0 : l0.length ≤ 30) :
  Calls Try.prog 39 #[.slice A1 l1.length c1, .func (.func 40) #[] #[.pointer (some ⟨B1, 0, none⟩), .pointer (some ⟨B2, 0, none⟩)]] w fun e w' => e = .returned (.int .i64 (blameFrom l0 l1.length 0 z39 l1)) ∧ Below w.heap.size w w' := by
 have hm1 := Kd.C_max hr1
 have HR0 := Aside0.mk hr0
 have HR1 := Aside0.mk hr1
 have HB1 := Aside0.mk hb1
 have HB2 := Aside0.mk hb2
 clear hr0 hr1 hb1 hb2
 generalize hz : z39 = z0
 clear hz
 go_enter Try.func39, Try.ntmps39
 go_wp2
 go_loopw [9] (fun v wr => ∃ (i : Nat) (y : S39), v = .int .i64 (i : Int) ∧ i ≤ l1.length ∧ Aside0 (blameFrom l0 l1.length 0 z0 l1 = blameFrom l0 l1.length i y (l1.drop i)) ∧ Aside0 (0 < i → rd_T39 l1 ((i : Int) - 1) = y ∧ inB y.f1 0 ((l0.length : Int) - 1) = true) ∧ Below w.heap.size w wr) (fun v _ => (l1.length - intOf v).toNat)
 case atStart => exact ⟨0, z0, rfl, by omega, ⟨rfl⟩, ⟨fun h => by omega⟩, Below.refl _ _⟩
 case round =>
  obtain ⟨i, y, rfl, hi, HE, HY, hB⟩ := hrel
  by_cases hlt : i < l1.length
  ·obtain ⟨ad, e, hu0, hu1⟩ := at_T39 (Kd.C_below HR1.out hB) (i : Int) (by omega) (by omega)
   cases e
   rw [Int.toNat_natCast] at hu0 hu1
   have hdrop : l1.drop i = rd_T39 l1 i :: l1.drop (i + 1) := by
    rw [List.drop_eq_getElem_cons hlt]
    simp [rd_T39, hlt]
   generalize hx : rd_T39 l1 (i : Int) = x at hu0 hu1 hdrop
   have HX := Aside0.mk hx
   have HDR := Aside0.mk hdrop
   clear hx hdrop
   have hcall := fun (W : World) (hW : Below w.heap.size w W) => route_Blame.c43 B1 B2 A0 c0 l0 (some ad) c1 l1 i x y W (Kd.C_below HR0.out hW) hc0 (Kd.C_below HR1.out hW) hc1 ((hW.block _ HB1.out.lt).trans HB1.out) ((hW.block _ HB2.out.lt).trans HB2.out) hlt hl0 HY.out
   have HC := Aside0.mk hcall
   clear hcall
   cases hb : badHop l0 l1.length i x y with
   | true =>
    go_wp2_with (go_at_call 40; refine (HC.out _ (below_alloc hB _)).mono ?_; rintro e w2 ⟨rfl, hk2⟩)
    go_ret
    refine ⟨?_, (below_alloc hB _).trans (hk2.mono (below_alloc hB _).size)⟩
    rw [HE.out, HDR.out]
    simp [blameFrom, hb]
   | false =>
    go_wp2_with (go_at_call 40; refine (HC.out _ (below_alloc hB _)).mono ?_; rintro e w2 ⟨rfl, hk2⟩)
    go_roundw
    case rel =>
     refine ⟨i + 1, x, by go_num, by omega, ⟨?_⟩, ⟨fun _ => ⟨?_, ?_⟩⟩, (below_alloc hB _).trans (hk2.mono (below_alloc hB _).size)⟩
     ·rw [HE.out, HDR.out]
      simp [blameFrom, hb]
     ·rw [show ((i + 1 : Nat) : Int) - 1 = (i : Int) by omega]; exact HX.out
     ·unfold badHop at hb
      cases h : inB x.f1 0 ((l0.length : Int) - 1) with
      | true => rfl
      | false => rw [h] at hb; simp at hb
    case measure => simp [intOf]; omega
  ·obtain rfl : i = l1.length := by omega
   go_wp2
   go_ret
   refine ⟨?_, hB⟩
   rw [HE.out]
   simp [blameFrom]
set_option maxHeartbeats 8000000 in
theorem route_Blame.calls (A0 : Option Addr) (c0 : Nat) (l0 : List Int) (A1 : Option Addr) (c1 : Nat) (l1 : List (S39)) (r : Int) (w : World) (hr0 : Kd.C (Kd.int .i64) w A0 l0.length l0) (hc0 : l0.length ≤ c0) (hr1 : Kd.C k39 w A1 l1.length l1) (hc1 : l1.length ≤ c1) (h : route_Blame.f l0 l1 = some r) :
  Calls Try.prog 20 #[.slice A0 l0.length c0, .slice A1 l1.length c1] w fun e w' => e = .returned (.int .i64 r) ∧ Below w.heap.size w w' := by
 have hval := Option.some.inj h
 have HV := Aside0.mk hval
 clear h hval
 have hcb1 : ∀ o, ((w.alloc (.cells #[.slice A0 l0.length c0] 23)).alloc o).cell? ⟨w.heap.size, 0, none⟩ = _ := fun o => ((Boxed.new w 23 (.slice A0 l0.length c0)).alloc o).cell
 have hm1 := Kd.C_max hr1
 have HR0 := Aside0.mk hr0
 have HR1 := Aside0.mk hr1
 clear hr0 hr1
 obtain ⟨W, hW⟩ : ∃ W, (w.alloc (.cells #[.slice A0 l0.length c0] 23)).alloc (.cells #[.slice A1 l1.length c1] 35) = W := ⟨_, rfl⟩
 have hbW : Below w.heap.size w W := by rw [← hW]; exact below_alloc (below_alloc (Below.refl _ _) _) _
 have hX0 : Boxed W w.heap.size 23 (.slice A0 l0.length c0) := by rw [← hW]; exact (Boxed.new _ _ _).alloc _
 have hX1 : Boxed W (w.heap.size + 1) 35 (.slice A1 l1.length c1) := by rw [← hW]; exact Boxed.new_at _ _ _ (by simp)
 have HWW := Aside0.mk hW
 clear hW
 cases hb : holdersB l0 with
 | false =>
  go_enter Try.func20, Try.ntmps20
  go_wp2_with fail
  rw [HWW.out]
  refine (route_areHolders.calls A0 c0 l0 false W (Kd.C_below HR0.out hbW) hc0 (by rw [route_areHolders.f, hb])).mono ?_
  rintro e w1 ⟨rfl, hk1⟩
  have hcc1 := Boxed.cell (show Boxed w1 _ _ _ from (hk1.block _ hX1.lt).trans hX1)
  have hbe := hbW.trans (hk1.mono hbW.size)
  go_wp2
  go_ret
  exact ⟨by rw [← HV.out, hb]; simp, hbe⟩
 | true =>
  have hl0 : l0.length ≤ 30 := by simp [holdersB, inB] at hb; omega
  by_cases hn : l1 = []
  ·have hn0 : ((l1.length : Int) == 0) = true := by simp [hn]
   have HN := Aside0.mk hn
   clear hn
   go_enter Try.func20, Try.ntmps20
   go_wp2_with fail
   rw [HWW.out]
   refine (route_areHolders.calls A0 c0 l0 true W (Kd.C_below HR0.out hbW) hc0 (by rw [route_areHolders.f, hb])).mono ?_
   rintro e w1 ⟨rfl, hk1⟩
   have hcc1 := Boxed.cell (show Boxed w1 _ _ _ from (hk1.block _ hX1.lt).trans hX1)
   have hbe := hbW.trans (hk1.mono hbW.size)
   go_wp2
   go_ret
   exact ⟨by rw [← HV.out, HN.out]; simp, hbe⟩
  ·have hn0 : ((l1.length : Int) == 0) = false := by
    have := List.length_pos_iff.mpr hn
    exact beq_eq_false_iff_ne.mpr (by omega)
   have HN := Aside0.mk hn
   clear hn
   go_enter Try.func20, Try.ntmps20
   go_wp2_with fail
   rw [HWW.out]
   refine (route_areHolders.calls A0 c0 l0 true W (Kd.C_below HR0.out hbW) hc0 (by rw [route_areHolders.f, hb])).mono ?_
   rintro e w1 ⟨rfl, hk1⟩
   have hY0 : Boxed w1 w.heap.size 23 (.slice A0 l0.length c0) := (hk1.block _ hX0.lt).trans hX0
   have hY1 : Boxed w1 (w.heap.size + 1) 35 (.slice A1 l1.length c1) := (hk1.block _ hX1.lt).trans hX1
   have hcc1 := hY1.cell
   have hbe := hbW.trans (hk1.mono hbW.size)
   go_wp2_with (go_at_call 39; refine (route_Blame.c42 w.heap.size (w.heap.size + 1) A0 c0 l0 A1 c1 l1 w1 (Kd.C_below HR0.out hbe) hc0 (Kd.C_below HR1.out hbe) hc1 hY0 hY1 hl0).mono ?_; rintro e w2 ⟨rfl, hk2⟩)
   go_ret
   refine ⟨?_, hbe.trans (hk2.mono hbe.size)⟩
   rw [← HV.out, if_pos ⟨hb, HN.out⟩]
   simp

end Go.Proofs.Ytlhhcjlcaacfpaa.P
namespace Go.Proofs.Ytlhhcjlcaacfpaa.P
open Go.RowKit Go.Proofs.YtlhhcjlcaacfpaaW.PrintWords Go.Proofs.YtlhhcjlcaacfpaaW.PrintLast Go.Proofs.YtlhhcjlcaacfpaaW.PrintMore Go.Proofs.YtlhhcjlcaacfpaaH Go.Proofs.YtlhhcjlcaacfpaaR Go.Proofs.YtlhhcjlcaacfpaaM
attribute [local go_sem] max2_int min2_int max_two min_two max_three min_three max_four min_four   -- for this text's walks alone
set_option linter.unusedVariables false
set_option linter.unusedSimpArgs false

/-! ### route_Right: function 19 -/
def route_Right.f (l0 : List Int) (l1 : List (S39)) : Option (Bool) := (route_Blame.f l0 l1).bind fun t141 => (some (t141 == (-1)))
set_option maxHeartbeats 8000000 in
set_option maxRecDepth 100000 in
theorem route_Right.calls (A0 : Option Addr) (c0 : Nat) (l0 : List Int) (A1 : Option Addr) (c1 : Nat) (l1 : List (S39)) (r : Bool) (w : World) (hr0 : Kd.C (Kd.int .i64) w A0 l0.length l0) (hc0 : l0.length ≤ c0) (hr1 : Kd.C k39 w A1 l1.length l1) (hc1 : l1.length ≤ c1) (h : route_Right.f l0 l1 = some r) :
  Calls Try.prog 19 #[.slice A0 l0.length c0, .slice A1 l1.length c1] w fun e w' => e = .returned (.bool r) ∧ Below w.heap.size w w' := by
 have HR0 := Aside0.mk hr0
 have HC0 := Aside0.mk hc0
 clear hr0 hc0
 have HR1 := Aside0.mk hr1
 have HC1 := Aside0.mk hc1
 clear hr1 hc1
 have HB := Aside0.mk (Below.refl w.heap.size w)
 have H : ((route_Blame.f l0 l1).bind fun t141 => (some (t141 == (-1)))) = some r := h
 clear h
 replace H := Option.bind_eq_some_iff.mp H
 obtain ⟨t141, A30, H⟩ := H
 replace H : (some (t141 == (-1))) = some r := H
 have A3 := Aside0.mk A30
 clear A30
 obtain rfl := Option.some.inj H
 go_enter Try.func19, Try.ntmps19
 go_wp2_with (first | ((with_reducible refine gate_callee (f := 20) rfl ?_); refine goesL_ (some 7) rfl rfl Try.func20 (by kernel_rfl) rfl #[.slice A0 l0.length c0, .slice A1 l1.length c1] rfl (by (try simp only [List.map_toArray, List.map_cons, List.map_nil]); first | done | rfl | (simp only [List.length_drop, List.length_take]; rfl)) ?_; (with_reducible refine (route_Blame.calls _ _ l0 _ _ l1 t141 _ ?side1 ?side2 ?side3 ?side4 A3.out).mono ?_); (case side1 => repeat (first | exact HR0.out | (with_reducible refine Kd.C_alloc ?_ _) | (with_reducible refine Kd.C_drewN ?_ _) | (with_reducible refine Kd.C_drew ?_))); (case side2 => exact HC0.out); (case side3 => repeat (first | exact HR1.out | (with_reducible refine Kd.C_alloc ?_ _) | (with_reducible refine Kd.C_drewN ?_ _) | (with_reducible refine Kd.C_drew ?_))); (case side4 => exact HC1.out); rintro e w4 ⟨rfl, hb⟩; refine ⟨_, rfl, ?_⟩; have n0_ := Aside0.mk (below_step (by repeat (first | (with_reducible first | exact HB.out | apply below_alloc | apply pw_below_drewN | apply below_drew1) | exact HB.out)) hb); clear HB; have HB := n0_; clear n0_; (try clear hb); (try clear hb2); (try clear hk); (try clear hi)))
 go_ret
 exact ⟨by first | rfl | (simp [errW_none, errW_some] <;> rfl) | (simp [*, errW_none, errW_some] <;> rfl), by repeat (first | (with_reducible first | exact HB.out | apply below_alloc | apply pw_below_drewN | apply below_drew1) | exact HB.out)⟩

end Go.Proofs.Ytlhhcjlcaacfpaa.P
