-- PRINTED by print.py (a twelfth state) out of the translation. Not trusted: Lean checks it.
import Derived.Test.YtmiahmpobpokmaaPx0
import Derived.Test.YtmiahmpobpokmaaPx6
import Derived.Test.YtmiahmpobpokmaaPx10
import Derived.Test.YtmiahmpobpokmaaPx11
import Derived.Test.YtmiahmpobpokmaaPx12
import Derived.Test.YtmiahmpobpokmaaPx15
namespace Go.Proofs.Ytmiahmpobpokmaa.P
open Go.RowKit Go.Proofs.YtmiahmpobpokmaaW.PrintWords Go.Proofs.YtmiahmpobpokmaaW.PrintLast Go.Proofs.YtmiahmpobpokmaaW.PrintMore Go.Proofs.YtmiahmpobpokmaaH Go.Proofs.YtmiahmpobpokmaaR
attribute [local go_sem] max2_int min2_int max_two min_two max_three min_three max_four min_four   -- for this text's walks alone
set_option linter.unusedVariables false
set_option linter.unusedSimpArgs false

/-! ### dialtonelaw24_RouteShows: function 8 -/
mutual
def dialtonelaw24_RouteShows.j0 : Nat → Int → Int → Bool → List Int → List (S40) → Bool → Option (Bool)
  | 0, _, _, _, _, _, _ => none
  | k + 1, x4, x5, x13, x14, x17, x56 => if x56 = true then (none) else (if (x17.length : Int) < 2 then (some x13) else ((dialtonelaw24_pick.f x4 (wrap64 ((x17.length : Int) - 1))).bind fun t458 => ((some (([] : List (S40)) : List (S40))).bind fun y459 => (if y459.length + x17.length < 8796093022208 then ((some (y459 ++ x17 : List (S40))).bind fun y462 => (if 0 ≤ (wrap64 (1 + t458)) then (if (wrap64 (1 + t458)) < (y462.length : Int) then ((some (y462.set ((wrap64 (1 + t458)) : Int).toNat (⟨x5, (rd_T40 y462 (wrap64 (1 + t458))).f1⟩ : S40) : List (S40))).bind fun y465 => (if (wrap64 (1 + t458)) < (x17.length : Int) then (if x5 = ((rd_T40 x17 (wrap64 (1 + t458))).f0) then (dialtonelaw24_RouteShows.j1 k x5 x14 x17 (wrap64 (1 + t458)) y465 false) else ((route_Right.f x14 y465).bind fun t467 => (if t467 = true then (dialtonelaw24_RouteShows.j1 k x5 x14 x17 (wrap64 (1 + t458)) y465 true) else ((route_Blame.f x14 y465).bind fun t468 => (dialtonelaw24_RouteShows.j1 k x5 x14 x17 (wrap64 (1 + t458)) y465 (t468 != (wrap64 (1 + t458)))))))) else (none))) else (none)) else (none))) else (none)))))
def dialtonelaw24_RouteShows.j1 : Nat → Int → List Int → List (S40) → Int → List (S40) → Bool → Option (Bool)
  | 0, _, _, _, _, _, _ => none
  | k + 1, x5, x14, x17, x20, x21, x93 => if x93 = true then (none) else (if 0 ≤ x20 then (if x20 < (x17.length : Int) then (if x20 < (x21.length : Int) then ((some (x21.set (x20 : Int).toNat (⟨(rd_T40 x17 x20).f0, (rd_T40 x17 x20).f1⟩ : S40) : List (S40))).bind fun y470 => (if 0 ≤ (wrap64 (x20 - 1)) then (if (wrap64 (x20 - 1)) < (x17.length : Int) then ((dialtonelaw24_pick.f x5 3).bind fun t472 => ((some (y470.set (x20 : Int).toNat (⟨(rd_T40 y470 x20).f0, wrap64 ((wrap64 (((rd_T40 x17 (wrap64 (x20 - 1))).f1) - 1)) - t472)⟩ : S40) : List (S40))).bind fun y473 => ((route_Right.f x14 y473).bind fun t474 => (if t474 = true then (none) else ((route_Blame.f x14 y473).bind fun t475 => (some (t475 == x20))))))) else (none)) else (none))) else (none)) else (none)) else (none))
end
def dialtonelaw24_RouteShows.f (k : Nat) (l0 : List Int) (l1 : List Int) (a2 : Int) (a3 : Int) (a4 : Int) (a5 : Int) : Option (Bool) := (dialtonelaw24_sane.f k).bind fun t442 => (if t442 = true then ((dialtoneref24_Made.f k l0 l1 a2).bind fun bt443 => ((dialtonelaw24_pick.f a3 8).bind fun t450 => ((route_Path.f k bt443.1 bt443.2.1 bt443.2.2 t450).bind fun bt451 => (if bt451.2.2 = 0 then ((route_Right.f bt443.1 bt451.1).bind fun t456 => (if t456 = true then ((route_Blame.f bt443.1 bt451.1).bind fun t457 => (dialtonelaw24_RouteShows.j0 k a4 a5 t442 bt443.1 bt451.1 (t457 != (-1)))) else (dialtonelaw24_RouteShows.j0 k a4 a5 t442 bt443.1 bt451.1 true))) else (some (bt451.2.2 == 240)))))) else (none))
theorem dialtonelaw24_RouteShows.mono_l : ∀ k, (∀ y0 y1 y2 y3 y4 y5, LeO (dialtonelaw24_RouteShows.j0 k y0 y1 y2 y3 y4 y5) (dialtonelaw24_RouteShows.j0 (k + 1) y0 y1 y2 y3 y4 y5)) ∧ (∀ y0 y1 y2 y3 y4 y5, LeO (dialtonelaw24_RouteShows.j1 k y0 y1 y2 y3 y4 y5) (dialtonelaw24_RouteShows.j1 (k + 1) y0 y1 y2 y3 y4 y5))
  | 0 => ⟨fun _ _ _ _ _ _ r h => by simp [dialtonelaw24_RouteShows.j0] at h, fun _ _ _ _ _ _ r h => by simp [dialtonelaw24_RouteShows.j1] at h⟩
  | k + 1 => by
    obtain ⟨ih0, ih1⟩ := dialtonelaw24_RouteShows.mono_l k
    refine ⟨?_, ?_⟩
    · intro y0 y1 y2 y3 y4 y5
      unfold dialtonelaw24_RouteShows.j0
      repeat' first
      | (with_reducible exact ih0 _ _ _ _ _ _)
      | (with_reducible exact ih1 _ _ _ _ _ _)
      | (with_reducible exact dialtonelaw24_sane.mono _)
      | (with_reducible exact dialtoneref24_Made.mono _ _ _ _)
      | (with_reducible exact route_Path.mono _ _ _ _ _)
      | (with_reducible exact LeO.refl _)
      | (with_reducible exact LeO.none _)
      | (with_reducible refine LeO.ite ?_ ?_)
      | (with_reducible refine LeO.bind ?_ (fun _ => ?_))
      | exact ih0 _ _ _ _ _ _
      | exact ih1 _ _ _ _ _ _
      | exact dialtonelaw24_sane.mono _
      | exact dialtoneref24_Made.mono _ _ _ _
      | exact route_Path.mono _ _ _ _ _
      | exact LeO.none _
      | refine LeO.ite ?_ ?_
      | refine LeO.bind ?_ (fun _ => ?_)
    · intro y0 y1 y2 y3 y4 y5
      unfold dialtonelaw24_RouteShows.j1
      repeat' first
      | (with_reducible exact ih0 _ _ _ _ _ _)
      | (with_reducible exact ih1 _ _ _ _ _ _)
      | (with_reducible exact dialtonelaw24_sane.mono _)
      | (with_reducible exact dialtoneref24_Made.mono _ _ _ _)
      | (with_reducible exact route_Path.mono _ _ _ _ _)
      | (with_reducible exact LeO.refl _)
      | (with_reducible exact LeO.none _)
      | (with_reducible refine LeO.ite ?_ ?_)
      | (with_reducible refine LeO.bind ?_ (fun _ => ?_))
      | exact ih0 _ _ _ _ _ _
      | exact ih1 _ _ _ _ _ _
      | exact dialtonelaw24_sane.mono _
      | exact dialtoneref24_Made.mono _ _ _ _
      | exact route_Path.mono _ _ _ _ _
      | exact LeO.none _
      | refine LeO.ite ?_ ?_
      | refine LeO.bind ?_ (fun _ => ?_)
theorem dialtonelaw24_RouteShows.mono : ∀ a0 a1 a2 a3 a4 a5 k, LeO (dialtonelaw24_RouteShows.f k a0 a1 a2 a3 a4 a5) (dialtonelaw24_RouteShows.f (k + 1) a0 a1 a2 a3 a4 a5) := by
  intro a0 a1 a2 a3 a4 a5 k
  obtain ⟨ih0, ih1⟩ := dialtonelaw24_RouteShows.mono_l k
  unfold dialtonelaw24_RouteShows.f
  repeat' first
      | (with_reducible exact ih0 _ _ _ _ _ _)
      | (with_reducible exact ih1 _ _ _ _ _ _)
      | (with_reducible exact dialtonelaw24_sane.mono _)
      | (with_reducible exact dialtoneref24_Made.mono _ _ _ _)
      | (with_reducible exact route_Path.mono _ _ _ _ _)
      | (with_reducible exact LeO.refl _)
      | (with_reducible exact LeO.none _)
      | (with_reducible refine LeO.ite ?_ ?_)
      | (with_reducible refine LeO.bind ?_ (fun _ => ?_))
      | exact ih0 _ _ _ _ _ _
      | exact ih1 _ _ _ _ _ _
      | exact dialtonelaw24_sane.mono _
      | exact dialtoneref24_Made.mono _ _ _ _
      | exact route_Path.mono _ _ _ _ _
      | exact LeO.none _
      | refine LeO.ite ?_ ?_
      | refine LeO.bind ?_ (fun _ => ?_)
def dialtonelaw24_RouteShows.T18 : Bool × List (List Nat × List Nat) := (true, [([], []), ([], []), ([], []), ([], []), ([3], [3]), ([2, 4], [2, 4]), ([5], [5]), ([6], [6]), ([7], [7]), ([], []), ([9], [9]), ([8, 10], [8, 10]), ([0, 1, 0, 1, 2, 3, 4, 5, 6, 7, 8, 9, 10, 11], [0, 1]), ([12, 0, 1, 2, 3, 4, 5, 6, 7, 8, 9, 10, 11], [12]), ([13, 11, 10, 0, 1, 2, 3, 4, 5, 6, 7, 8, 9, 10, 11], [11, 13])])
def dialtonelaw24_RouteShows.B18 : List Nat := [0, 0, 0, 0, 8, 28, 60, 124, 252, 0, 512, 2044, 4095, 8191, 16383]
theorem dialtonelaw24_RouteShows.tab18 : rtab .any (opsOf Try.f8 18) = dialtonelaw24_RouteShows.T18 := by kernel_rfl
theorem dialtonelaw24_RouteShows.bits18 : waitsOk dialtonelaw24_RouteShows.T18.2 dialtonelaw24_RouteShows.B18 = true := by kernel_rfl
set_option maxHeartbeats 8000000 in
set_option maxRecDepth 100000 in
theorem dialtonelaw24_RouteShows.calls (k : Nat) (A0 : Option Addr) (c0 : Nat) (l0 : List Int) (A1 : Option Addr) (c1 : Nat) (l1 : List Int) (a2 : Int) (a3 : Int) (a4 : Int) (a5 : Int) (r : Bool) (w : World) (hr0 : Kd.C (Kd.int .i64) w A0 l0.length l0) (hc0 : l0.length ≤ c0) (hr1 : Kd.C (Kd.int .i64) w A1 l1.length l1) (hc1 : l1.length ≤ c1) (h : dialtonelaw24_RouteShows.f k l0 l1 a2 a3 a4 a5 = some r) :
    Calls Try.prog 8 #[.slice A0 l0.length c0, .slice A1 l1.length c1, .int .i64 a2, .int .i64 a3, .int .i64 a4, .int .i64 a5] w fun e w' => e = .returned (.bool r) ∧ Below w.heap.size w w' := by
  have hu40 := Try.underlying40
  have HR0 := Aside0.mk hr0
  have HC0 := Aside0.mk hc0
  clear hr0 hc0
  have HR1 := Aside0.mk hr1
  have HC1 := Aside0.mk hc1
  clear hr1 hc1
  have HB := Aside0.mk (Below.refl w.heap.size w)
  have H : ((dialtonelaw24_sane.f k).bind fun t442 => (if t442 = true then ((dialtoneref24_Made.f k l0 l1 a2).bind fun bt443 => ((dialtonelaw24_pick.f a3 8).bind fun t450 => ((route_Path.f k bt443.1 bt443.2.1 bt443.2.2 t450).bind fun bt451 => (if bt451.2.2 = 0 then ((route_Right.f bt443.1 bt451.1).bind fun t456 => (if t456 = true then ((route_Blame.f bt443.1 bt451.1).bind fun t457 => (dialtonelaw24_RouteShows.j0 k a4 a5 t442 bt443.1 bt451.1 (t457 != (-1)))) else (dialtonelaw24_RouteShows.j0 k a4 a5 t442 bt443.1 bt451.1 true))) else (some (bt451.2.2 == 240)))))) else (none))) = some r := h
  clear h
  replace H := Option.bind_eq_some_iff.mp H
  obtain ⟨t442, A70, H⟩ := H
  replace H : (if t442 = true then ((dialtoneref24_Made.f k l0 l1 a2).bind fun bt443 => ((dialtonelaw24_pick.f a3 8).bind fun t450 => ((route_Path.f k bt443.1 bt443.2.1 bt443.2.2 t450).bind fun bt451 => (if bt451.2.2 = 0 then ((route_Right.f bt443.1 bt451.1).bind fun t456 => (if t456 = true then ((route_Blame.f bt443.1 bt451.1).bind fun t457 => (dialtonelaw24_RouteShows.j0 k a4 a5 t442 bt443.1 bt451.1 (t457 != (-1)))) else (dialtonelaw24_RouteShows.j0 k a4 a5 t442 bt443.1 bt451.1 true))) else (some (bt451.2.2 == 240)))))) else (none)) = some r := H
  have A7 := Aside0.mk A70
  clear A70
  by_cases c8 : t442 = true
  · subst c8
    have H1 : ((dialtoneref24_Made.f k l0 l1 a2).bind fun bt443 => ((dialtonelaw24_pick.f a3 8).bind fun t450 => ((route_Path.f k bt443.1 bt443.2.1 bt443.2.2 t450).bind fun bt451 => (if bt451.2.2 = 0 then ((route_Right.f bt443.1 bt451.1).bind fun t456 => (if t456 = true then ((route_Blame.f bt443.1 bt451.1).bind fun t457 => (dialtonelaw24_RouteShows.j0 k a4 a5 true bt443.1 bt451.1 (t457 != (-1)))) else (dialtonelaw24_RouteShows.j0 k a4 a5 true bt443.1 bt451.1 true))) else (some (bt451.2.2 == 240)))))) = some r := by rw [if_pos rfl] at H; exact H
    clear H
    have H := H1
    clear H1
    replace H := Option.bind_eq_some_iff.mp H
    obtain ⟨⟨t443, t444, t445⟩, A90, H⟩ := H
    replace H : ((dialtonelaw24_pick.f a3 8).bind fun t450 => ((route_Path.f k t443 t444 t445 t450).bind fun bt451 => (if bt451.2.2 = 0 then ((route_Right.f t443 bt451.1).bind fun t456 => (if t456 = true then ((route_Blame.f t443 bt451.1).bind fun t457 => (dialtonelaw24_RouteShows.j0 k a4 a5 true t443 bt451.1 (t457 != (-1)))) else (dialtonelaw24_RouteShows.j0 k a4 a5 true t443 bt451.1 true))) else (some (bt451.2.2 == 240))))) = some r := H
    have A9 := Aside0.mk A90
    clear A90
    replace H := Option.bind_eq_some_iff.mp H
    obtain ⟨t450, A100, H⟩ := H
    replace H : ((route_Path.f k t443 t444 t445 t450).bind fun bt451 => (if bt451.2.2 = 0 then ((route_Right.f t443 bt451.1).bind fun t456 => (if t456 = true then ((route_Blame.f t443 bt451.1).bind fun t457 => (dialtonelaw24_RouteShows.j0 k a4 a5 true t443 bt451.1 (t457 != (-1)))) else (dialtonelaw24_RouteShows.j0 k a4 a5 true t443 bt451.1 true))) else (some (bt451.2.2 == 240)))) = some r := H
    have A10 := Aside0.mk A100
    clear A100
    replace H := Option.bind_eq_some_iff.mp H
    obtain ⟨⟨t451, t452, t453⟩, A110, H⟩ := H
    replace H : (if t453 = 0 then ((route_Right.f t443 t451).bind fun t456 => (if t456 = true then ((route_Blame.f t443 t451).bind fun t457 => (dialtonelaw24_RouteShows.j0 k a4 a5 true t443 t451 (t457 != (-1)))) else (dialtonelaw24_RouteShows.j0 k a4 a5 true t443 t451 true))) else (some (t453 == 240))) = some r := H
    have A11 := Aside0.mk A110
    clear A110
    by_cases c12 : t453 = 0
    · rw [if_pos c12] at H
      have c12b0 : (t453 == 0) = true := beq_iff_eq.mpr c12
      have c12b1 : (t453 != 0) = false := bne_eq_false_iff_eq.mpr c12
      clear c12
      have HC13 := Aside0.mk H
      clear H
      go_enter Try.func8, Try.ntmps8
      go_upto_region 8 with (first | ((with_reducible refine gate_callee (f := 11) rfl ?_); refine goesL_ (some 22) rfl rfl Try.func11 (by kernel_rfl) rfl #[] rfl (by (try simp only [List.map_toArray, List.map_cons, List.map_nil]); first | done | rfl | (simp only [List.length_drop, List.length_take]; rfl)) ?_; (with_reducible refine (dialtonelaw24_sane.calls k  true _ A7.out).mono ?_); rintro e w14 ⟨rfl, hb⟩; refine ⟨_, rfl, ?_⟩; have n0_ := Aside0.mk (below_step (by repeat (first | (with_reducible first | exact HB.out | apply below_alloc | apply pw_below_drewN | apply below_drew1) | exact HB.out)) hb); clear HB; have HB := n0_; clear n0_; (try clear hb); (try clear hb2); (try clear hk); (try clear hi)) | ((with_reducible refine gate_callee (f := 12) rfl ?_); refine goesL_ (some 29) rfl rfl Try.func12 (by kernel_rfl) rfl #[.slice A0 l0.length c0, .slice A1 l1.length c1, .int .i64 a2] rfl (by (try simp only [List.map_toArray, List.map_cons, List.map_nil]); first | done | rfl | (simp only [List.length_drop, List.length_take]; rfl)) ?_; (with_reducible refine (dialtoneref24_Made.calls k _ _ l0 _ _ l1 a2 t443 t444 t445 _ ?side1 ?side2 ?side3 ?side4 A9.out).mono ?_); (case side1 => repeat (first | exact (Kd.C_below HR0.out HB.out) | (with_reducible refine Kd.C_alloc ?_ _) | (with_reducible refine Kd.C_drewN ?_ _) | (with_reducible refine Kd.C_drew ?_))); (case side2 => exact HC0.out); (case side3 => repeat (first | exact (Kd.C_below HR1.out HB.out) | (with_reducible refine Kd.C_alloc ?_ _) | (with_reducible refine Kd.C_drewN ?_ _) | (with_reducible refine Kd.C_drew ?_))); (case side4 => exact HC1.out); rintro e w15 ⟨v446, v448, rfl, ho0, ho1, hb⟩; refine ⟨_, rfl, ?_⟩; have n0_ := Aside0.mk (Kd.R_lower ho0 (below_size (by repeat (first | (with_reducible first | exact HB.out | apply below_alloc | apply pw_below_drewN | apply below_drew1) | exact HB.out)))); have n1_ := Aside0.mk (Kd.R_lower ho1 (below_size (by repeat (first | (with_reducible first | exact HB.out | apply below_alloc | apply pw_below_drewN | apply below_drew1) | exact HB.out)))); have n2_ := Aside0.mk (below_step (by repeat (first | (with_reducible first | exact HB.out | apply below_alloc | apply pw_below_drewN | apply below_drew1) | exact HB.out)) hb); clear HB; have HO447 := n0_; have HO449 := n1_; have HB := n2_; clear n0_ n1_ n2_; (try clear hb); (try clear hb2); (try clear hk); (try clear hi); (try clear ho0); (try clear ho1)) | ((with_reducible refine gate_callee (f := 13) rfl ?_); refine goesL_ (some 38) rfl rfl Try.func13 (by kernel_rfl) rfl #[.int .i64 a3, .int .i64 8] rfl (by (try simp only [List.map_toArray, List.map_cons, List.map_nil]); first | done | rfl | (simp only [List.length_drop, List.length_take]; rfl)) ?_; (with_reducible refine (dialtonelaw24_pick.calls a3 8 t450 _ A10.out).mono ?_); rintro e w' ⟨rfl, ⟨nd, rfl⟩⟩; refine ⟨_, rfl, ?_⟩; obtain ⟨Ao16, co16, eo16⟩ := Kd.R_slice HO447.out; subst eo16; obtain ⟨Ao17, co17, eo17⟩ := Kd.R_slice HO449.out; subst eo17) | ((with_reducible refine gate_callee (f := 16) rfl ?_); refine goesL_ (some 39) rfl rfl Try.func16 (by kernel_rfl) rfl #[.slice Ao16 t443.length co16, .slice Ao17 t444.length co17, .int .i64 t445, .int .i64 t450] rfl (by (try simp only [List.map_toArray, List.map_cons, List.map_nil]); first | done | rfl | (simp only [List.length_drop, List.length_take]; rfl)) ?_; (with_reducible refine (route_Path.calls k _ _ t443 _ _ t444 t445 t450 t451 t452 t453 _ ?side1 ?side2 ?side3 ?side4 A11.out).mono ?_); (case side1 => repeat (first | exact (Kd.R_reads' HO447.out).2.2 | (with_reducible refine Kd.C_alloc ?_ _) | (with_reducible refine Kd.C_drewN ?_ _) | (with_reducible refine Kd.C_drew ?_))); (case side2 => exact (Kd.R_reads' HO447.out).2.1); (case side3 => repeat (first | exact (Kd.R_reads' HO449.out).2.2 | (with_reducible refine Kd.C_alloc ?_ _) | (with_reducible refine Kd.C_drewN ?_ _) | (with_reducible refine Kd.C_drew ?_))); (case side4 => exact (Kd.R_reads' HO449.out).2.1); rintro e w18 ⟨v454, rfl, ho0, hb⟩; refine ⟨_, rfl, ?_⟩; have n0_ := Aside0.mk (Kd.R_below (by (with_reducible repeat (first | apply Kd.R_alloc | apply Kd.R_drewN | apply Kd.R_drew)); exact HO447.out) hb); have n1_ := Aside0.mk (Kd.R_below (by (with_reducible repeat (first | apply Kd.R_alloc | apply Kd.R_drewN | apply Kd.R_drew)); exact HO449.out) hb); have n2_ := Aside0.mk (Kd.R_lower ho0 (below_size (by repeat (first | (with_reducible first | exact HB.out | apply below_alloc | apply pw_below_drewN | apply below_drew1) | exact HB.out)))); have n3_ := Aside0.mk (below_step (by repeat (first | (with_reducible first | exact HB.out | apply below_alloc | apply pw_below_drewN | apply below_drew1) | exact HB.out)) hb); clear HO447; clear HO449; clear HB; have HO447 := n0_; have HO449 := n1_; have HO455 := n2_; have HB := n3_; clear n0_ n1_ n2_ n3_; (try clear hb); (try clear hb2); (try clear hk); (try clear hi); (try clear ho0)))
      (try simp only [Act.put, List.setIfInBounds_toArray, List.set_cons_zero, List.set_cons_succ])
      go_cut [56] (fun v56 wc => ∃ (kq : Nat) (x56_12 : Bool), v56 = .bool x56_12 ∧ Aside0 (dialtonelaw24_RouteShows.j0 kq a4 a5 true t443 t451 x56_12 = some r) ∧ Aside0 (kq ≤ k) ∧ Aside0 (Kd.R (Kd.int .i64) 3 wc w.heap.size (fun _ => True) (.slice Ao16 t443.length co16) t443) ∧ Aside0 (Kd.R k40 40 wc w.heap.size (fun _ => True) v454 t451) ∧ Aside0 (Below w.heap.size w wc))
      case first =>
        have H := HC13.out
        clear HC13
        replace H := Option.bind_eq_some_iff.mp H
        obtain ⟨t456, A190, H⟩ := H
        replace H : (if t456 = true then ((route_Blame.f t443 t451).bind fun t457 => (dialtonelaw24_RouteShows.j0 k a4 a5 true t443 t451 (t457 != (-1)))) else (dialtonelaw24_RouteShows.j0 k a4 a5 true t443 t451 true)) = some r := H
        have A19 := Aside0.mk A190
        clear A190
        by_cases c20 : t456 = true
        · subst c20
          have H1 : ((route_Blame.f t443 t451).bind fun t457 => (dialtonelaw24_RouteShows.j0 k a4 a5 true t443 t451 (t457 != (-1)))) = some r := by rw [if_pos rfl] at H; exact H
          clear H
          have H := H1
          clear H1
          replace H := Option.bind_eq_some_iff.mp H
          obtain ⟨t457, A210, H⟩ := H
          replace H : (dialtonelaw24_RouteShows.j0 k a4 a5 true t443 t451 (t457 != (-1))) = some r := H
          have A21 := Aside0.mk A210
          clear A210
          have H' := Aside0.mk H
          clear H
          obtain ⟨Ao22, co22, eo22⟩ := Kd.R_slice HO455.out
          subst eo22
          go_wp2_with (first | ((with_reducible refine gate_callee (f := 24) rfl ?_); refine goesL_ (some 49) rfl rfl Try.func24 (by kernel_rfl) rfl #[.slice Ao16 t443.length co16, .slice Ao22 t451.length co22] rfl (by (try simp only [List.map_toArray, List.map_cons, List.map_nil]); first | done | rfl | (simp only [List.length_drop, List.length_take]; rfl)) ?_; (with_reducible refine (route_Right.calls _ _ t443 _ _ t451 true _ ?side1 ?side2 ?side3 ?side4 A19.out).mono ?_); (case side1 => repeat (first | exact (Kd.R_reads' HO447.out).2.2 | (with_reducible refine Kd.C_alloc ?_ _) | (with_reducible refine Kd.C_drewN ?_ _) | (with_reducible refine Kd.C_drew ?_))); (case side2 => exact (Kd.R_reads' HO447.out).2.1); (case side3 => repeat (first | exact (Kd.R_reads' HO455.out).2.2 | (with_reducible refine Kd.C_alloc ?_ _) | (with_reducible refine Kd.C_drewN ?_ _) | (with_reducible refine Kd.C_drew ?_))); (case side4 => exact (Kd.R_reads' HO455.out).2.1); rintro e w23 ⟨rfl, hb⟩; refine ⟨_, rfl, ?_⟩; have n0_ := Aside0.mk (Kd.R_below (by (with_reducible repeat (first | apply Kd.R_alloc | apply Kd.R_drewN | apply Kd.R_drew)); exact HO447.out) hb); have n1_ := Aside0.mk (Kd.R_below (by (with_reducible repeat (first | apply Kd.R_alloc | apply Kd.R_drewN | apply Kd.R_drew)); exact HO449.out) hb); have n2_ := Aside0.mk (Kd.R_below (by (with_reducible repeat (first | apply Kd.R_alloc | apply Kd.R_drewN | apply Kd.R_drew)); exact HO455.out) hb); have n3_ := Aside0.mk (below_step (by repeat (first | (with_reducible first | exact HB.out | apply below_alloc | apply pw_below_drewN | apply below_drew1) | exact HB.out)) hb); clear HO447; clear HO449; clear HO455; clear HB; have HO447 := n0_; have HO449 := n1_; have HO455 := n2_; have HB := n3_; clear n0_ n1_ n2_ n3_; (try clear hb); (try clear hb2); (try clear hk); (try clear hi)) | (go_at_call 26; (with_reducible refine (route_Blame.calls _ _ t443 _ _ t451 t457 _ ?side1 ?side2 ?side3 ?side4 A21.out).mono ?_); (case side1 => repeat (first | exact (Kd.R_reads' HO447.out).2.2 | (with_reducible refine Kd.C_alloc ?_ _) | (with_reducible refine Kd.C_drewN ?_ _) | (with_reducible refine Kd.C_drew ?_))); (case side2 => exact (Kd.R_reads' HO447.out).2.1); (case side3 => repeat (first | exact (Kd.R_reads' HO455.out).2.2 | (with_reducible refine Kd.C_alloc ?_ _) | (with_reducible refine Kd.C_drewN ?_ _) | (with_reducible refine Kd.C_drew ?_))); (case side4 => exact (Kd.R_reads' HO455.out).2.1); rintro e w24 ⟨rfl, hb⟩; have n0_ := Aside0.mk (Kd.R_below (by (with_reducible repeat (first | apply Kd.R_alloc | apply Kd.R_drewN | apply Kd.R_drew)); exact HO447.out) hb); have n1_ := Aside0.mk (Kd.R_below (by (with_reducible repeat (first | apply Kd.R_alloc | apply Kd.R_drewN | apply Kd.R_drew)); exact HO449.out) hb); have n2_ := Aside0.mk (Kd.R_below (by (with_reducible repeat (first | apply Kd.R_alloc | apply Kd.R_drewN | apply Kd.R_drew)); exact HO455.out) hb); have n3_ := Aside0.mk (below_step (by repeat (first | (with_reducible first | exact HB.out | apply below_alloc | apply pw_below_drewN | apply below_drew1) | exact HB.out)) hb); clear HO447; clear HO449; clear HO455; clear HB; have HO447 := n0_; have HO449 := n1_; have HO455 := n2_; have HB := n3_; clear n0_ n1_ n2_ n3_; (try clear hb); (try clear hb2); (try clear hk); (try clear hi)))
          go_meet
          case rel => exact ⟨_, ((t457 != (-1))), (by first | rfl | (simp; done) | (simp [*]; done)), H', ⟨by first | omega | exact Nat.le_refl _⟩, ⟨by (with_reducible repeat (first | apply Kd.R_alloc | apply Kd.R_drewN | apply Kd.R_drew)); exact Kd.R_mono HO447.out (fun _ hk => trivial)⟩, ⟨by (with_reducible repeat (first | apply Kd.R_alloc | apply Kd.R_drewN | apply Kd.R_drew)); exact HO455.out⟩, ⟨by repeat (first | (with_reducible first | exact HB.out | apply below_alloc | apply pw_below_drewN | apply below_drew1) | exact HB.out)⟩⟩
        · replace c20 := Bool.eq_false_iff.mpr c20
          subst c20
          have H1 : (dialtonelaw24_RouteShows.j0 k a4 a5 true t443 t451 true) = some r := by rw [if_neg (show ¬ (false = true) by decide)] at H; exact H
          clear H
          have H := H1
          clear H1
          have H' := Aside0.mk H
          clear H
          obtain ⟨Ao25, co25, eo25⟩ := Kd.R_slice HO455.out
          subst eo25
          go_wp2_with (first | ((with_reducible refine gate_callee (f := 24) rfl ?_); refine goesL_ (some 49) rfl rfl Try.func24 (by kernel_rfl) rfl #[.slice Ao16 t443.length co16, .slice Ao25 t451.length co25] rfl (by (try simp only [List.map_toArray, List.map_cons, List.map_nil]); first | done | rfl | (simp only [List.length_drop, List.length_take]; rfl)) ?_; (with_reducible refine (route_Right.calls _ _ t443 _ _ t451 false _ ?side1 ?side2 ?side3 ?side4 A19.out).mono ?_); (case side1 => repeat (first | exact (Kd.R_reads' HO447.out).2.2 | (with_reducible refine Kd.C_alloc ?_ _) | (with_reducible refine Kd.C_drewN ?_ _) | (with_reducible refine Kd.C_drew ?_))); (case side2 => exact (Kd.R_reads' HO447.out).2.1); (case side3 => repeat (first | exact (Kd.R_reads' HO455.out).2.2 | (with_reducible refine Kd.C_alloc ?_ _) | (with_reducible refine Kd.C_drewN ?_ _) | (with_reducible refine Kd.C_drew ?_))); (case side4 => exact (Kd.R_reads' HO455.out).2.1); rintro e w26 ⟨rfl, hb⟩; refine ⟨_, rfl, ?_⟩; have n0_ := Aside0.mk (Kd.R_below (by (with_reducible repeat (first | apply Kd.R_alloc | apply Kd.R_drewN | apply Kd.R_drew)); exact HO447.out) hb); have n1_ := Aside0.mk (Kd.R_below (by (with_reducible repeat (first | apply Kd.R_alloc | apply Kd.R_drewN | apply Kd.R_drew)); exact HO449.out) hb); have n2_ := Aside0.mk (Kd.R_below (by (with_reducible repeat (first | apply Kd.R_alloc | apply Kd.R_drewN | apply Kd.R_drew)); exact HO455.out) hb); have n3_ := Aside0.mk (below_step (by repeat (first | (with_reducible first | exact HB.out | apply below_alloc | apply pw_below_drewN | apply below_drew1) | exact HB.out)) hb); clear HO447; clear HO449; clear HO455; clear HB; have HO447 := n0_; have HO449 := n1_; have HO455 := n2_; have HB := n3_; clear n0_ n1_ n2_ n3_; (try clear hb); (try clear hb2); (try clear hk); (try clear hi)))
          go_meet
          case rel => exact ⟨_, (true), (by first | rfl | (simp; done) | (simp [*]; done)), H', ⟨by first | omega | exact Nat.le_refl _⟩, ⟨by (with_reducible repeat (first | apply Kd.R_alloc | apply Kd.R_drewN | apply Kd.R_drew)); exact Kd.R_mono HO447.out (fun _ hk => trivial)⟩, ⟨by (with_reducible repeat (first | apply Kd.R_alloc | apply Kd.R_drewN | apply Kd.R_drew)); exact HO455.out⟩, ⟨by repeat (first | (with_reducible first | exact HB.out | apply below_alloc | apply pw_below_drewN | apply below_drew1) | exact HB.out)⟩⟩
      case rest =>
        clear HC13
        try clear c1
        try clear c2
        try clear p2
        try clear c8
        try clear c11
        try clear c12
        try clear c12b0
        try clear c12b1
        try clear c13
        try clear c16
        try clear c20
        try clear c24
        obtain ⟨kq, x56_12, rfl, HA, HJ12, HO_14, HO_17, HB⟩ := hcut
        cases kq with
        | zero => exact absurd HA.out (by simp [dialtonelaw24_RouteShows.j0])
        | succ kj12 =>
          have H := HA.out
          clear HA
          simp only [dialtonelaw24_RouteShows.j0] at H
          by_cases c27 : x56_12 = true
          · subst c27
            have H1 : (none) = some r := by rw [if_pos rfl] at H; exact H
            clear H
            have H := H1
            clear H1
            exact absurd H (by simp)
          · replace c27 := Bool.eq_false_iff.mpr c27
            subst c27
            have H1 : (if (t451.length : Int) < 2 then (some true) else ((dialtonelaw24_pick.f a4 (wrap64 ((t451.length : Int) - 1))).bind fun t458 => ((some (([] : List (S40)) : List (S40))).bind fun y459 => (if y459.length + t451.length < 8796093022208 then ((some (y459 ++ t451 : List (S40))).bind fun y462 => (if 0 ≤ (wrap64 (1 + t458)) then (if (wrap64 (1 + t458)) < (y462.length : Int) then ((some (y462.set ((wrap64 (1 + t458)) : Int).toNat (⟨a5, (rd_T40 y462 (wrap64 (1 + t458))).f1⟩ : S40) : List (S40))).bind fun y465 => (if (wrap64 (1 + t458)) < (t451.length : Int) then (if a5 = ((rd_T40 t451 (wrap64 (1 + t458))).f0) then (dialtonelaw24_RouteShows.j1 kj12 a5 t443 t451 (wrap64 (1 + t458)) y465 false) else ((route_Right.f t443 y465).bind fun t467 => (if t467 = true then (dialtonelaw24_RouteShows.j1 kj12 a5 t443 t451 (wrap64 (1 + t458)) y465 true) else ((route_Blame.f t443 y465).bind fun t468 => (dialtonelaw24_RouteShows.j1 kj12 a5 t443 t451 (wrap64 (1 + t458)) y465 (t468 != (wrap64 (1 + t458)))))))) else (none))) else (none)) else (none))) else (none))))) = some r := by rw [if_neg (show ¬ (false = true) by decide)] at H; exact H
            clear H
            have H := H1
            clear H1
            by_cases c28 : (t451.length : Int) < 2
            · rw [if_pos c28] at H
              have c28b0 : decide ((t451.length : Int) < 2) = true := decide_eq_true c28
              have c28b1 : decide (t451.length < 2) = true := decide_eq_true (by omega)
              clear c28
              obtain rfl := Option.some.inj H
              obtain ⟨Ao29, co29, eo29⟩ := Kd.R_slice HO_17.out
              subst eo29
              go_wp2
              go_ret
              exact ⟨by first | rfl | (simp [errW_none, errW_some] <;> rfl) | (simp [*, errW_none, errW_some] <;> rfl), by repeat (first | (with_reducible first | exact HB.out | apply below_alloc | apply pw_below_drewN | apply below_drew1) | exact HB.out)⟩
            · rw [if_neg c28] at H
              have c28b0 : decide ((t451.length : Int) < 2) = false := decide_eq_false c28
              have c28b1 : decide (t451.length < 2) = false := decide_eq_false (by omega)
              clear c28
              replace H := Option.bind_eq_some_iff.mp H
              obtain ⟨t458, A300, H⟩ := H
              replace H : ((some (([] : List (S40)) : List (S40))).bind fun y459 => (if y459.length + t451.length < 8796093022208 then ((some (y459 ++ t451 : List (S40))).bind fun y462 => (if 0 ≤ (wrap64 (1 + t458)) then (if (wrap64 (1 + t458)) < (y462.length : Int) then ((some (y462.set ((wrap64 (1 + t458)) : Int).toNat (⟨a5, (rd_T40 y462 (wrap64 (1 + t458))).f1⟩ : S40) : List (S40))).bind fun y465 => (if (wrap64 (1 + t458)) < (t451.length : Int) then (if a5 = ((rd_T40 t451 (wrap64 (1 + t458))).f0) then (dialtonelaw24_RouteShows.j1 kj12 a5 t443 t451 (wrap64 (1 + t458)) y465 false) else ((route_Right.f t443 y465).bind fun t467 => (if t467 = true then (dialtonelaw24_RouteShows.j1 kj12 a5 t443 t451 (wrap64 (1 + t458)) y465 true) else ((route_Blame.f t443 y465).bind fun t468 => (dialtonelaw24_RouteShows.j1 kj12 a5 t443 t451 (wrap64 (1 + t458)) y465 (t468 != (wrap64 (1 + t458)))))))) else (none))) else (none)) else (none))) else (none))) = some r := H
              have A30 := Aside0.mk A300
              clear A300
              obtain ⟨y459, hy459⟩ : ∃ y_ : List (S40), y_ = (([] : List (S40))) := ⟨_, rfl⟩
              replace H : (if y459.length + t451.length < 8796093022208 then ((some (y459 ++ t451 : List (S40))).bind fun y462 => (if 0 ≤ (wrap64 (1 + t458)) then (if (wrap64 (1 + t458)) < (y462.length : Int) then ((some (y462.set ((wrap64 (1 + t458)) : Int).toNat (⟨a5, (rd_T40 y462 (wrap64 (1 + t458))).f1⟩ : S40) : List (S40))).bind fun y465 => (if (wrap64 (1 + t458)) < (t451.length : Int) then (if a5 = ((rd_T40 t451 (wrap64 (1 + t458))).f0) then (dialtonelaw24_RouteShows.j1 kj12 a5 t443 t451 (wrap64 (1 + t458)) y465 false) else ((route_Right.f t443 y465).bind fun t467 => (if t467 = true then (dialtonelaw24_RouteShows.j1 kj12 a5 t443 t451 (wrap64 (1 + t458)) y465 true) else ((route_Blame.f t443 y465).bind fun t468 => (dialtonelaw24_RouteShows.j1 kj12 a5 t443 t451 (wrap64 (1 + t458)) y465 (t468 != (wrap64 (1 + t458)))))))) else (none))) else (none)) else (none))) else (none)) = some r := by first | (rw [hy459]; with_reducible exact H) | (have H2_ := (Option.bind_some _ _).symm.trans H; rw [hy459]; with_reducible exact H2_) | (have H2_ := (Option.bind_some _ _).symm.trans H; with_reducible exact H2_) | with_reducible exact H | (rw [hy459]; exact H) | exact H
              have Ny459 := Aside0.mk hy459
              clear hy459
              by_cases c31 : y459.length + t451.length < 8796093022208
              · rw [if_pos c31] at H
                have LMc31 := Aside0.mk c31
                clear c31
                obtain ⟨y462, hy462⟩ : ∃ y_ : List (S40), y_ = (y459 ++ t451) := ⟨_, rfl⟩
                replace H : (if 0 ≤ (wrap64 (1 + t458)) then (if (wrap64 (1 + t458)) < (y462.length : Int) then ((some (y462.set ((wrap64 (1 + t458)) : Int).toNat (⟨a5, (rd_T40 y462 (wrap64 (1 + t458))).f1⟩ : S40) : List (S40))).bind fun y465 => (if (wrap64 (1 + t458)) < (t451.length : Int) then (if a5 = ((rd_T40 t451 (wrap64 (1 + t458))).f0) then (dialtonelaw24_RouteShows.j1 kj12 a5 t443 t451 (wrap64 (1 + t458)) y465 false) else ((route_Right.f t443 y465).bind fun t467 => (if t467 = true then (dialtonelaw24_RouteShows.j1 kj12 a5 t443 t451 (wrap64 (1 + t458)) y465 true) else ((route_Blame.f t443 y465).bind fun t468 => (dialtonelaw24_RouteShows.j1 kj12 a5 t443 t451 (wrap64 (1 + t458)) y465 (t468 != (wrap64 (1 + t458)))))))) else (none))) else (none)) else (none)) = some r := by first | (rw [hy462]; with_reducible exact H) | (have H2_ := (Option.bind_some _ _).symm.trans H; rw [hy462]; with_reducible exact H2_) | (have H2_ := (Option.bind_some _ _).symm.trans H; with_reducible exact H2_) | with_reducible exact H | (rw [hy462]; exact H) | exact H
                have Ny462 := Aside0.mk hy462
                clear hy462
                obtain ⟨ji32, hji32⟩ : ∃ j_ : Int, (wrap64 (1 + t458)) = j_ := ⟨_, rfl⟩
                replace H : (if 0 ≤ (ji32) then (if (ji32) < (y462.length : Int) then ((some (y462.set ((ji32) : Int).toNat (⟨a5, (rd_T40 y462 (ji32)).f1⟩ : S40) : List (S40))).bind fun y465 => (if (ji32) < (t451.length : Int) then (if a5 = ((rd_T40 t451 (ji32)).f0) then (dialtonelaw24_RouteShows.j1 kj12 a5 t443 t451 ji32 y465 false) else ((route_Right.f t443 y465).bind fun t467 => (if t467 = true then (dialtonelaw24_RouteShows.j1 kj12 a5 t443 t451 ji32 y465 true) else ((route_Blame.f t443 y465).bind fun t468 => (dialtonelaw24_RouteShows.j1 kj12 a5 t443 t451 ji32 y465 (t468 != (ji32))))))) else (none))) else (none)) else (none)) = some r := by first | (rw [hji32] at H; exact H) | (simp only [hji32] at H ⊢; exact H)
                (try rw [hji32] at A30)
                have hji32w : (IntKind.i64.wrap (1 + t458)) = ji32 := (i64_w _).trans hji32
                by_cases c33 : 0 ≤ (ji32)
                · rw [if_pos c33] at H
                  have c33b0 : decide (0 ≤ (ji32)) = true := decide_eq_true c33
                  clear c33
                  by_cases c34 : (ji32) < (y462.length : Int)
                  · rw [if_pos c34] at H
                    have c34b0 : decide ((ji32) < (y462.length : Int)) = true := decide_eq_true c34
                    clear c34
                    obtain ⟨y465, hy465⟩ : ∃ y_ : List (S40), y_ = (y462.set ((ji32) : Int).toNat (⟨a5, (rd_T40 y462 (ji32)).f1⟩ : S40)) := ⟨_, rfl⟩
                    replace H : (if (ji32) < (t451.length : Int) then (if a5 = ((rd_T40 t451 (ji32)).f0) then (dialtonelaw24_RouteShows.j1 kj12 a5 t443 t451 ji32 y465 false) else ((route_Right.f t443 y465).bind fun t467 => (if t467 = true then (dialtonelaw24_RouteShows.j1 kj12 a5 t443 t451 ji32 y465 true) else ((route_Blame.f t443 y465).bind fun t468 => (dialtonelaw24_RouteShows.j1 kj12 a5 t443 t451 ji32 y465 (t468 != (ji32))))))) else (none)) = some r := by first | (rw [hy465]; with_reducible exact H) | (have H2_ := (Option.bind_some _ _).symm.trans H; rw [hy465]; with_reducible exact H2_) | (have H2_ := (Option.bind_some _ _).symm.trans H; with_reducible exact H2_) | with_reducible exact H | (rw [hy465]; exact H) | exact H
                    have Ny465 := Aside0.mk hy465
                    clear hy465
                    have HC36 := Aside0.mk H
                    clear H
                    obtain ⟨Ao37, co37, eo37⟩ := Kd.R_slice HO_17.out
                    subst eo37
                    go_upto_region 15 with (first | ((with_reducible refine gate_callee (f := 13) rfl ?_); refine goesL_ (some 65) rfl rfl Try.func13 (by kernel_rfl) rfl #[.int .i64 a4, .int .i64 (wrap64 ((t451.length : Int) - 1))] rfl (by (try simp only [List.map_toArray, List.map_cons, List.map_nil]); first | done | rfl | (simp only [List.length_drop, List.length_take]; rfl)) ?_; (with_reducible refine (dialtonelaw24_pick.calls a4 (wrap64 ((t451.length : Int) - 1)) t458 _ A30.out).mono ?_); rintro e w' ⟨rfl, ⟨nd, rfl⟩⟩; refine ⟨_, rfl, ?_⟩; (try (rw [drewN_self wc]; generalize hq_ : World.drewN wc _ = wc; have n0_ : Aside0 (Kd.R (Kd.int .i64) 3 wc w.heap.size (fun _ => True) (.slice Ao16 t443.length co16) t443) := ⟨by rw [← hq_]; exact (by (with_reducible repeat (first | apply Kd.R_alloc | apply Kd.R_drewN | apply Kd.R_drew)); exact HO_14.out)⟩; have n1_ : Aside0 (Kd.R k40 40 wc w.heap.size (fun _ => True) (.slice Ao37 t451.length co37) t451) := ⟨by rw [← hq_]; exact (by (with_reducible repeat (first | apply Kd.R_alloc | apply Kd.R_drewN | apply Kd.R_drew)); exact HO_17.out)⟩; have n2_ : Aside0 (Below w.heap.size w wc) := ⟨by rw [← hq_]; exact (by repeat (first | (with_reducible first | exact HB.out | apply below_alloc | apply pw_below_drewN | apply below_drew1) | exact HB.out))⟩; clear HO_14 HO_17 HB hq_; have HO_14 := n0_; have HO_17 := n1_; have HB := n2_; clear n0_ n1_ n2_))) | ((with_reducible refine gate_dst (N := 67) rfl ?_); refine Kd.R_lit k40 _ 40 ?hg (N := 67) ?hd (xs := ([] : List (S40))) (inner := []) (ok := fun _ => True) (okp := fun _ => True) ?hr ?hp (fun _ hk => hk) trivial (Below.refl _ _) (Nat.le_refl _) (by simp) ?_; (case hd => rfl); (case hg => rfl); (case hr => first | (go_simp; done) | (go_simp; rfl)); (case hp => exact (Reps.none _ _)); intro v460 w38 ho39 hb hg_ hnew_; clear hg_ hnew_; (first | rw [← Ny459.out] at ho39 | (simp only [Int.reduceToNat] at ho39; rw [← Ny459.out] at ho39)); have n0_ := Aside0.mk (Kd.R_below (by (with_reducible repeat (first | apply Kd.R_alloc | apply Kd.R_drewN | apply Kd.R_drew)); exact HO_14.out) hb); have n1_ := Aside0.mk (Kd.R_elder' (by (with_reducible repeat (first | apply Kd.R_alloc | apply Kd.R_drewN | apply Kd.R_drew)); exact HO_17.out) (Kd.R_base ho39) hb); have n2_ := Aside0.mk (Kd.R_lower (Kd.R_new' ho39 (Kd.R_lt (by (with_reducible repeat (first | apply Kd.R_alloc | apply Kd.R_drewN | apply Kd.R_drew)); exact HO_17.out))) (below_size (by repeat (first | (with_reducible first | exact HB.out | apply below_alloc | apply pw_below_drewN | apply below_drew1) | exact HB.out)))); have n3_ := Aside0.mk (below_step (by repeat (first | (with_reducible first | exact HB.out | apply below_alloc | apply pw_below_drewN | apply below_drew1) | exact HB.out)) hb); clear HO_14; clear HO_17; clear HB; have HO_14 := n0_; have HO_17 := n1_; have HO461 := n2_; have HB := n3_; clear n0_ n1_ n2_ n3_; clear hb ho39) | ((with_reducible refine gate_builtin (b := .append) (xs := #[.tmp 67, .tmp 68]) rfl ?_); at_builtin; refine Kd.R_append_rows k40 (w0 := w) w.heap.size rfl (.tmp 67) (.tmp 68) 23 40 (.agg #[(.int .i64 0), (.int .i64 0)]) 16 rfl Try.underlying23 info40 rfl (by decide) (by omega) v460 y459 t451 _ _ _ (fun k_ => some k_ ≠ (.slice Ao37 t451.length co37 : Value).ownBlock) (fun _ => False) rfl rfl ?aO ?aR (fun _ _ h => h) (fun _ h => h.elim) ?aF ?aB ?aS ?aL ?_; (case aR => repeat (first | exact (Kd.R_reads' HO_17.out).2.2 | (with_reducible refine Kd.C_alloc ?_ _) | (with_reducible refine Kd.C_drewN ?_ _) | (with_reducible refine Kd.C_drew ?_))); (case aB => exact (by repeat (first | (with_reducible first | exact HB.out | apply below_alloc | apply pw_below_drewN | apply below_drew1) | exact HB.out))); (case aF => exact (fun k_ hk => Kd.fresh' (Kd.R_lt (by (with_reducible repeat (first | apply Kd.R_alloc | apply Kd.R_drewN | apply Kd.R_drew)); exact HO_17.out)) k_ hk)); (case aO => exact (by (with_reducible repeat (first | apply Kd.R_alloc | apply Kd.R_drewN | apply Kd.R_drew)); exact Kd.R_mono HO461.out (fun _ hk => hk.2))); (case aS => exact (below_size (by repeat (first | (with_reducible first | exact HB.out | apply below_alloc | apply pw_below_drewN | apply below_drew1) | exact HB.out)))); (case aL => have := LMc31.out; omega); intro v463 w40 ho hb hg hat; rw [← Ny462.out] at ho; have n0_ := Aside0.mk (Kd.R_over' (by (with_reducible repeat (first | apply Kd.R_alloc | apply Kd.R_drewN | apply Kd.R_drew)); exact HO_14.out) (Kd.R_typed (by (with_reducible repeat (first | apply Kd.R_alloc | apply Kd.R_drewN | apply Kd.R_drew)); exact HO461.out)) (by decide) hg); have n1_ := Aside0.mk (Kd.R_after (ok := (fun _ => True)) (by (with_reducible repeat (first | apply Kd.R_alloc | apply Kd.R_drewN | apply Kd.R_drew)); exact HO_17.out) hg hat); have n2_ := Aside0.mk (hb); have n3_ := Aside0.mk (ho); clear HO_14; clear HO_17; clear HB; clear HO461; have HO_14 := n0_; have HO_17 := n1_; have HB := n2_; have HO464 := n3_; clear n0_ n1_ n2_ n3_; clear ho hb hg hat; have p35 : 0 ≤ ((ji32) : Int) := of_decide_eq_true (by first | (with_reducible assumption) | assumption); have q35 : ((ji32) : Int) < ((y462.length : Int) : Int) := of_decide_eq_true (by first | (with_reducible assumption) | assumption); obtain ⟨go35, co35, eo35, gb35, gl35, cl35, HG35⟩ := Kd.R_form HO464.out (by omega); (first | cases eo35 | (injection eo35 with ea_ en_ ec_; (first | subst ea_ | (injection ea_ with ea_; subst ea_)); subst ec_; clear en_)); have GB35 := Aside0.mk gb35; have GG35 := Aside0.mk HG35; clear gb35 gl35 HG35; obtain ⟨ce35, hcl35, hM35, hcc35, hfr35⟩ := Kd.R_elem HO464.out z40 ((ji32) : Int) p35 q35; obtain rfl := k40_openM hM35; have hx35_0 : w40.cell? ⟨go35, ((ji32) : Int).toNat * 2, none⟩ = some (.int .i64 ((rd_T40 y462 (ji32)).f0)) := hcc35 0 _ rfl; have hx35_1 : w40.cell? ⟨go35, ((ji32) : Int).toNat * 2 + 1, none⟩ = some (.int .i64 ((rd_T40 y462 (ji32)).f1)) := hcc35 1 _ rfl; have hf35_0 : w40.frozen? ⟨go35, ((ji32) : Int).toNat * 2, none⟩ = false := hfr35 0; have hf35_1 : w40.frozen? ⟨go35, ((ji32) : Int).toNat * 2 + 1, none⟩ = false := hfr35 1; clear hcl35 hcc35 hfr35 hM35; replace p35 := eq_true p35; replace q35 := eq_true q35; have HX41 := Aside0.mk (show Kd.R k40 40 w40 w.heap.size (fun k_ => some k_ ≠ (.slice Ao37 t451.length co37 : Value).ownBlock) (.slice (some ⟨go35, 0, none⟩) y462.length co35) y462 from (by (with_reducible repeat (first | apply Kd.R_alloc | apply Kd.R_drewN | apply Kd.R_drew)); exact HO464.out)); obtain ⟨ce41, hcl41, hM41, hcc41, hfr41⟩ := Kd.R_elem HX41.out z40 ((ji32) : Int) (of_decide_eq_true (by first | (with_reducible assumption) | assumption)) (by have h_ : ((ji32) : Int) < ((y462.length : Int) : Int) := of_decide_eq_true (by first | (with_reducible assumption) | assumption); first | exact h_ | (have e_ := (Kd.R_reads' HO464.out).1; omega) | simpa using h_); obtain rfl := k40_openM hM41; have HP41 := Kd.R_seg HX41.out ((ji32) : Int) (of_decide_eq_true (by first | (with_reducible assumption) | assumption)) (by have h_ : ((ji32) : Int) < ((y462.length : Int) : Int) := of_decide_eq_true (by first | (with_reducible assumption) | assumption); first | exact h_ | (have e_ := (Kd.R_reads' HO464.out).1; omega) | simpa using h_) (seg := [.int .i64 a5]) (j := 0) hcl41 hcc41 (show 1 ≤ 2 from by decide) (x' := (⟨a5, (rd_T40 y462 (ji32)).f1⟩ : S40)) (k40_mkM _ _ _ (⟨a5, (rd_T40 y462 (ji32)).f1⟩ : S40) ) (fun _ hk => hk); have hx41_0 := hcc41 0 _ rfl; (try simp only [show (k40).sz = 2 from rfl, Nat.mul_one, Nat.add_zero] at hx41_0); have hf41_0 := hfr41 0; (try simp only [show (k40).sz = 2 from rfl, Nat.mul_one, Nat.add_zero] at hf41_0); clear hcl41 hcc41 hfr41 hM41) | ((with_reducible refine gate_store (t := 3) (p := 74) rfl ?_); refine store_event (t := 3) (p := 74) (v := ?vo_w42) (w1 := (w40.setCell ⟨go35, ((ji32) : Int).toNat * 2, none⟩ (.int .i64 a5))) ?hg ?ho ?hn ?hr ?_; (case ho => rfl); (case hg => rfl); (case hn => rfl); (case hr => first | (go_simp; done) | (go_simp; rfl)); intro w42 hw; have hg : w40.grownBy w42 (some go35) := (by rw [hw]; exact HP41.2); have hp_ : Kd.R k40 40 w42 w.heap.size (fun k_ => some k_ ≠ (.slice Ao37 t451.length co37 : Value).ownBlock) (.slice (some ⟨go35, 0, none⟩) y462.length co35) y465 := (by rw [hw, Ny465.out]; exact HP41.1); clear HP41; have n0_ := Aside0.mk (Kd.R_over' (v := (.slice (some ⟨go35, 0, none⟩) y462.length co35)) (by (with_reducible repeat (first | apply Kd.R_alloc | apply Kd.R_drewN | apply Kd.R_drew)); exact HO_14.out) (Kd.R_typed HO464.out) (by decide) hg); have n1_ := Aside0.mk (Kd.R_after (v := (.slice (some ⟨go35, 0, none⟩) y462.length co35)) (v1 := (.slice (some ⟨go35, 0, none⟩) y462.length co35)) (ok := (fun _ => True)) (by (with_reducible repeat (first | apply Kd.R_alloc | apply Kd.R_drewN | apply Kd.R_drew)); exact HO_17.out) hg (.inl rfl)); have n2_ := Aside0.mk (hp_); have n3_ := Aside0.mk ((by rw [hw]; exact below_set (HB.out) GB35.out : Below w.heap.size w w42)); clear HO_14; clear HO_17; clear HO464; clear HB; have HO_14 := n0_; have HO_17 := n1_; have HO464 := n2_; have HB := n3_; clear n0_ n1_ n2_ n3_; clear hg hw hp_))
                    (try simp only [Act.put, List.setIfInBounds_toArray, List.set_cons_zero, List.set_cons_succ])
                    go_cut [93] (fun v93 wc => ∃ (kq : Nat) (x93_35 : Bool), v93 = .bool x93_35 ∧ Aside0 (dialtonelaw24_RouteShows.j1 kq a5 t443 t451 ji32 y465 x93_35 = some r) ∧ Aside0 (kq ≤ kj12) ∧ Aside0 (Kd.R (Kd.int .i64) 3 wc w.heap.size (fun _ => True) (.slice Ao16 t443.length co16) t443) ∧ Aside0 (Kd.R k40 40 wc w.heap.size (fun k_ => some k_ ≠ ((.slice (some ⟨go35, 0, none⟩) y462.length co35) : Value).ownBlock) (.slice Ao37 t451.length co37) t451) ∧ Aside0 (Kd.R k40 40 wc w.heap.size (fun k_ => some k_ ≠ ((.slice Ao37 t451.length co37) : Value).ownBlock) (.slice (some ⟨go35, 0, none⟩) y462.length co35) y465) ∧ Aside0 (Below w.heap.size w wc))
                    case first =>
                      have H := HC36.out
                      clear HC36
                      by_cases c43 : (ji32) < (t451.length : Int)
                      · rw [if_pos c43] at H
                        have c43b0 : decide ((ji32) < (t451.length : Int)) = true := decide_eq_true c43
                        clear c43
                        (first | rw [c43b0] | (simp only [i64_w, i32_w]; rw [c43b0]) | rw [c43b1] | skip)
                        by_cases c44 : a5 = ((rd_T40 t451 (ji32)).f0)
                        · rw [if_pos c44] at H
                          have c44b0 : (a5 == ((rd_T40 t451 (ji32)).f0)) = true := beq_iff_eq.mpr c44
                          have c44b1 : (a5 != ((rd_T40 t451 (ji32)).f0)) = false := bne_eq_false_iff_eq.mpr c44
                          clear c44
                          have H' := Aside0.mk H
                          clear H
                          have p466 : 0 ≤ ((ji32) : Int) := of_decide_eq_true (by first | (with_reducible assumption) | assumption)
                          have q466 : (ji32) < (t451.length : Int) := of_decide_eq_true (by first | (with_reducible assumption) | assumption)
                          (try (obtain ⟨Ao_, co_, eo_⟩ := Kd.R_slice HO_17.out; cases eo_))
                          obtain ⟨ad466, e466, hx466_0, hx466_1⟩ := at_T40 (Kd.R_reads' HO_17.out).2.2 (ji32) p466 q466
                          cases e466
                          replace p466 := eq_true p466
                          replace q466 := eq_true q466
                          go_wp2
                          go_meet
                          case rel => exact ⟨_, (false), (by first | rfl | (simp; done) | (simp [*]; done)), H', ⟨by have := HJ12.out; first | omega | exact Nat.le_refl _⟩, ⟨by (with_reducible repeat (first | apply Kd.R_alloc | apply Kd.R_drewN | apply Kd.R_drew)); exact HO_14.out⟩, ⟨by (with_reducible repeat (first | apply Kd.R_alloc | apply Kd.R_drewN | apply Kd.R_drew)); exact Kd.R_mono HO_17.out (fun _ hk => hk.2)⟩, ⟨by (with_reducible repeat (first | apply Kd.R_alloc | apply Kd.R_drewN | apply Kd.R_drew)); exact HO464.out⟩, ⟨by repeat (first | (with_reducible first | exact HB.out | apply below_alloc | apply pw_below_drewN | apply below_drew1) | exact HB.out)⟩⟩
                        · rw [if_neg c44] at H
                          have c44b0 : (a5 == ((rd_T40 t451 (ji32)).f0)) = false := beq_eq_false_iff_ne.mpr c44
                          have c44b1 : (a5 != ((rd_T40 t451 (ji32)).f0)) = true := bne_iff_ne.mpr c44
                          replace H := Option.bind_eq_some_iff.mp H
                          obtain ⟨t467, A450, H⟩ := H
                          replace H : (if t467 = true then (dialtonelaw24_RouteShows.j1 kj12 a5 t443 t451 ji32 y465 true) else ((route_Blame.f t443 y465).bind fun t468 => (dialtonelaw24_RouteShows.j1 kj12 a5 t443 t451 ji32 y465 (t468 != (ji32))))) = some r := H
                          have A45 := Aside0.mk A450
                          clear A450
                          by_cases c46 : t467 = true
                          · subst c46
                            have H1 : (dialtonelaw24_RouteShows.j1 kj12 a5 t443 t451 ji32 y465 true) = some r := by rw [if_pos rfl] at H; exact H
                            clear H
                            have H := H1
                            clear H1
                            have H' := Aside0.mk H
                            clear H
                            have p466 : 0 ≤ ((ji32) : Int) := of_decide_eq_true (by first | (with_reducible assumption) | assumption)
                            have q466 : (ji32) < (t451.length : Int) := of_decide_eq_true (by first | (with_reducible assumption) | assumption)
                            (try (obtain ⟨Ao_, co_, eo_⟩ := Kd.R_slice HO_17.out; cases eo_))
                            obtain ⟨ad466, e466, hx466_0, hx466_1⟩ := at_T40 (Kd.R_reads' HO_17.out).2.2 (ji32) p466 q466
                            cases e466
                            replace p466 := eq_true p466
                            replace q466 := eq_true q466
                            go_wp2_with (first | (go_at_call 24; refine calls_of_args (args' := #[.slice Ao16 t443.length co16, .slice (some ⟨go35, 0, none⟩) y465.length co35]) (by first | (rw [show y465.length = y462.length from (Kd.R_reads' HO464.out).1.symm] <;> rfl) | rfl) ?_; (with_reducible refine (route_Right.calls _ _ t443 _ _ y465 true _ ?side1 ?side2 ?side3 ?side4 A45.out).mono ?_); (case side1 => repeat (first | exact (Kd.R_reads' HO_14.out).2.2 | (with_reducible refine Kd.C_alloc ?_ _) | (with_reducible refine Kd.C_drewN ?_ _) | (with_reducible refine Kd.C_drew ?_))); (case side2 => exact (Kd.R_reads' HO_14.out).2.1); (case side3 => repeat (first | exact (Kd.R_reads' HO464.out).2.2 | (with_reducible refine Kd.C_alloc ?_ _) | (with_reducible refine Kd.C_drewN ?_ _) | (with_reducible refine Kd.C_drew ?_))); (case side4 => rw [show y465.length = y462.length from (Kd.R_reads' HO464.out).1.symm]; exact (Kd.R_reads' HO464.out).2.1); rintro e w47 ⟨rfl, hb⟩; have n0_ := Aside0.mk (Kd.R_below (by (with_reducible repeat (first | apply Kd.R_alloc | apply Kd.R_drewN | apply Kd.R_drew)); exact HO_14.out) hb); have n1_ := Aside0.mk (Kd.R_below (by (with_reducible repeat (first | apply Kd.R_alloc | apply Kd.R_drewN | apply Kd.R_drew)); exact HO_17.out) hb); have n2_ := Aside0.mk (Kd.R_below (by (with_reducible repeat (first | apply Kd.R_alloc | apply Kd.R_drewN | apply Kd.R_drew)); exact HO464.out) hb); have n3_ := Aside0.mk (below_step (by repeat (first | (with_reducible first | exact HB.out | apply below_alloc | apply pw_below_drewN | apply below_drew1) | exact HB.out)) hb); clear HO_14; clear HO_17; clear HO464; clear HB; have HO_14 := n0_; have HO_17 := n1_; have HO464 := n2_; have HB := n3_; clear n0_ n1_ n2_ n3_; (try clear hb); (try clear hb2); (try clear hk); (try clear hi)))
                            go_meet
                            case rel => exact ⟨_, (true), (by first | rfl | (simp; done) | (simp [*]; done)), H', ⟨by have := HJ12.out; first | omega | exact Nat.le_refl _⟩, ⟨by (with_reducible repeat (first | apply Kd.R_alloc | apply Kd.R_drewN | apply Kd.R_drew)); exact HO_14.out⟩, ⟨by (with_reducible repeat (first | apply Kd.R_alloc | apply Kd.R_drewN | apply Kd.R_drew)); exact Kd.R_mono HO_17.out (fun _ hk => hk.2)⟩, ⟨by (with_reducible repeat (first | apply Kd.R_alloc | apply Kd.R_drewN | apply Kd.R_drew)); exact HO464.out⟩, ⟨by repeat (first | (with_reducible first | exact HB.out | apply below_alloc | apply pw_below_drewN | apply below_drew1) | exact HB.out)⟩⟩
                          · replace c46 := Bool.eq_false_iff.mpr c46
                            subst c46
                            have H1 : ((route_Blame.f t443 y465).bind fun t468 => (dialtonelaw24_RouteShows.j1 kj12 a5 t443 t451 ji32 y465 (t468 != (ji32)))) = some r := by rw [if_neg (show ¬ (false = true) by decide)] at H; exact H
                            clear H
                            have H := H1
                            clear H1
                            replace H := Option.bind_eq_some_iff.mp H
                            obtain ⟨t468, A480, H⟩ := H
                            replace H : (dialtonelaw24_RouteShows.j1 kj12 a5 t443 t451 ji32 y465 (t468 != (ji32))) = some r := H
                            have A48 := Aside0.mk A480
                            clear A480
                            have H' := Aside0.mk H
                            clear H
                            have p466 : 0 ≤ ((ji32) : Int) := of_decide_eq_true (by first | (with_reducible assumption) | assumption)
                            have q466 : (ji32) < (t451.length : Int) := of_decide_eq_true (by first | (with_reducible assumption) | assumption)
                            (try (obtain ⟨Ao_, co_, eo_⟩ := Kd.R_slice HO_17.out; cases eo_))
                            obtain ⟨ad466, e466, hx466_0, hx466_1⟩ := at_T40 (Kd.R_reads' HO_17.out).2.2 (ji32) p466 q466
                            cases e466
                            replace p466 := eq_true p466
                            replace q466 := eq_true q466
                            go_wp2_with (first | (go_at_call 24; refine calls_of_args (args' := #[.slice Ao16 t443.length co16, .slice (some ⟨go35, 0, none⟩) y465.length co35]) (by first | (rw [show y465.length = y462.length from (Kd.R_reads' HO464.out).1.symm] <;> rfl) | rfl) ?_; (with_reducible refine (route_Right.calls _ _ t443 _ _ y465 false _ ?side1 ?side2 ?side3 ?side4 A45.out).mono ?_); (case side1 => repeat (first | exact (Kd.R_reads' HO_14.out).2.2 | (with_reducible refine Kd.C_alloc ?_ _) | (with_reducible refine Kd.C_drewN ?_ _) | (with_reducible refine Kd.C_drew ?_))); (case side2 => exact (Kd.R_reads' HO_14.out).2.1); (case side3 => repeat (first | exact (Kd.R_reads' HO464.out).2.2 | (with_reducible refine Kd.C_alloc ?_ _) | (with_reducible refine Kd.C_drewN ?_ _) | (with_reducible refine Kd.C_drew ?_))); (case side4 => rw [show y465.length = y462.length from (Kd.R_reads' HO464.out).1.symm]; exact (Kd.R_reads' HO464.out).2.1); rintro e w49 ⟨rfl, hb⟩; have n0_ := Aside0.mk (Kd.R_below (by (with_reducible repeat (first | apply Kd.R_alloc | apply Kd.R_drewN | apply Kd.R_drew)); exact HO_14.out) hb); have n1_ := Aside0.mk (Kd.R_below (by (with_reducible repeat (first | apply Kd.R_alloc | apply Kd.R_drewN | apply Kd.R_drew)); exact HO_17.out) hb); have n2_ := Aside0.mk (Kd.R_below (by (with_reducible repeat (first | apply Kd.R_alloc | apply Kd.R_drewN | apply Kd.R_drew)); exact HO464.out) hb); have n3_ := Aside0.mk (below_step (by repeat (first | (with_reducible first | exact HB.out | apply below_alloc | apply pw_below_drewN | apply below_drew1) | exact HB.out)) hb); clear HO_14; clear HO_17; clear HO464; clear HB; have HO_14 := n0_; have HO_17 := n1_; have HO464 := n2_; have HB := n3_; clear n0_ n1_ n2_ n3_; (try clear hb); (try clear hb2); (try clear hk); (try clear hi)) | (go_at_call 26; refine calls_of_args (args' := #[.slice Ao16 t443.length co16, .slice (some ⟨go35, 0, none⟩) y465.length co35]) (by first | (rw [show y465.length = y462.length from (Kd.R_reads' HO464.out).1.symm] <;> rfl) | rfl) ?_; (with_reducible refine (route_Blame.calls _ _ t443 _ _ y465 t468 _ ?side1 ?side2 ?side3 ?side4 A48.out).mono ?_); (case side1 => repeat (first | exact (Kd.R_reads' HO_14.out).2.2 | (with_reducible refine Kd.C_alloc ?_ _) | (with_reducible refine Kd.C_drewN ?_ _) | (with_reducible refine Kd.C_drew ?_))); (case side2 => exact (Kd.R_reads' HO_14.out).2.1); (case side3 => repeat (first | exact (Kd.R_reads' HO464.out).2.2 | (with_reducible refine Kd.C_alloc ?_ _) | (with_reducible refine Kd.C_drewN ?_ _) | (with_reducible refine Kd.C_drew ?_))); (case side4 => rw [show y465.length = y462.length from (Kd.R_reads' HO464.out).1.symm]; exact (Kd.R_reads' HO464.out).2.1); rintro e w50 ⟨rfl, hb⟩; have n0_ := Aside0.mk (Kd.R_below (by (with_reducible repeat (first | apply Kd.R_alloc | apply Kd.R_drewN | apply Kd.R_drew)); exact HO_14.out) hb); have n1_ := Aside0.mk (Kd.R_below (by (with_reducible repeat (first | apply Kd.R_alloc | apply Kd.R_drewN | apply Kd.R_drew)); exact HO_17.out) hb); have n2_ := Aside0.mk (Kd.R_below (by (with_reducible repeat (first | apply Kd.R_alloc | apply Kd.R_drewN | apply Kd.R_drew)); exact HO464.out) hb); have n3_ := Aside0.mk (below_step (by repeat (first | (with_reducible first | exact HB.out | apply below_alloc | apply pw_below_drewN | apply below_drew1) | exact HB.out)) hb); clear HO_14; clear HO_17; clear HO464; clear HB; have HO_14 := n0_; have HO_17 := n1_; have HO464 := n2_; have HB := n3_; clear n0_ n1_ n2_ n3_; (try clear hb); (try clear hb2); (try clear hk); (try clear hi)))
                            go_meet
                            case rel => exact ⟨_, ((t468 != (ji32))), (by first | rfl | (simp; done) | (simp only [← hji32] <;> (first | rfl | simp)) | (simp [*]; done)), H', ⟨by have := HJ12.out; first | omega | exact Nat.le_refl _⟩, ⟨by (with_reducible repeat (first | apply Kd.R_alloc | apply Kd.R_drewN | apply Kd.R_drew)); exact HO_14.out⟩, ⟨by (with_reducible repeat (first | apply Kd.R_alloc | apply Kd.R_drewN | apply Kd.R_drew)); exact Kd.R_mono HO_17.out (fun _ hk => hk.2)⟩, ⟨by (with_reducible repeat (first | apply Kd.R_alloc | apply Kd.R_drewN | apply Kd.R_drew)); exact HO464.out⟩, ⟨by repeat (first | (with_reducible first | exact HB.out | apply below_alloc | apply pw_below_drewN | apply below_drew1) | exact HB.out)⟩⟩
                      · rw [if_neg c43] at H
                        exact absurd H (by simp)
                    case rest =>
                      clear HC36
                      try clear c1
                      try clear c2
                      try clear p2
                      try clear c3
                      try clear p3
                      try clear q3
                      try clear hx3
                      try clear c4
                      try clear p4
                      try clear q4
                      try clear hx4
                      try clear p6
                      try clear c8
                      try clear c11
                      try clear c12
                      try clear c12b0
                      try clear c12b1
                      try clear c13
                      try clear c16
                      try clear c20
                      try clear c24
                      try clear c27
                      try clear c28
                      try clear c28b0
                      try clear c28b1
                      try clear c31
                      try clear c33
                      try clear c33b0
                      try clear c34
                      try clear c34b0
                      try clear c35
                      try clear p35
                      try clear q35
                      try clear hx35
                      try clear hf35
                      try clear c41
                      try clear hx41
                      try clear hf41
                      try clear c43
                      try clear c43b0
                      try clear c43b1
                      try clear c44
                      try clear c44b0
                      try clear c44b1
                      try clear c46
                      try clear p46
                      try clear q46
                      try clear hx46
                      try clear hx35_0
                      try clear hx35_1
                      try clear hx41_0
                      try clear hx466_0
                      try clear hx466_1
                      try clear p2
                      try clear p35
                      try clear p466
                      try clear q35
                      try clear q466
                      obtain ⟨kq, x93_35, rfl, HA, HJ35, HO_14, HO_17, HO_21, HB⟩ := hcut
                      have hl21_35 := (Kd.R_reads' HO_21.out).1
                      rw [hl21_35] at HO_21
                      (try simp only [hl21_35])
                      (try simp only [hl21_35] at HO_14)
                      (try simp only [hl21_35] at HO_17)
                      cases kq with
                      | zero => exact absurd HA.out (by simp [dialtonelaw24_RouteShows.j1])
                      | succ kj35 =>
                        have H := HA.out
                        clear HA
                        simp only [dialtonelaw24_RouteShows.j1] at H
                        by_cases c51 : x93_35 = true
                        · subst c51
                          have H1 : (none) = some r := by rw [if_pos rfl] at H; exact H
                          clear H
                          have H := H1
                          clear H1
                          exact absurd H (by simp)
                        · replace c51 := Bool.eq_false_iff.mpr c51
                          subst c51
                          have H1 : (if 0 ≤ ji32 then (if ji32 < (t451.length : Int) then (if ji32 < (y465.length : Int) then ((some (y465.set (ji32 : Int).toNat (⟨(rd_T40 t451 ji32).f0, (rd_T40 t451 ji32).f1⟩ : S40) : List (S40))).bind fun y470 => (if 0 ≤ (wrap64 (ji32 - 1)) then (if (wrap64 (ji32 - 1)) < (t451.length : Int) then ((dialtonelaw24_pick.f a5 3).bind fun t472 => ((some (y470.set (ji32 : Int).toNat (⟨(rd_T40 y470 ji32).f0, wrap64 ((wrap64 (((rd_T40 t451 (wrap64 (ji32 - 1))).f1) - 1)) - t472)⟩ : S40) : List (S40))).bind fun y473 => ((route_Right.f t443 y473).bind fun t474 => (if t474 = true then (none) else ((route_Blame.f t443 y473).bind fun t475 => (some (t475 == ji32))))))) else (none)) else (none))) else (none)) else (none)) else (none)) = some r := by rw [if_neg (show ¬ (false = true) by decide)] at H; exact H
                          clear H
                          have H := H1
                          clear H1
                          by_cases c52 : 0 ≤ ji32
                          · rw [if_pos c52] at H
                            have c52b0 : decide (0 ≤ ji32) = true := decide_eq_true c52
                            clear c52
                            by_cases c53 : ji32 < (t451.length : Int)
                            · rw [if_pos c53] at H
                              have c53b0 : decide (ji32 < (t451.length : Int)) = true := decide_eq_true c53
                              clear c53
                              by_cases c54 : ji32 < (y465.length : Int)
                              · rw [if_pos c54] at H
                                have c54b0 : decide (ji32 < (y465.length : Int)) = true := decide_eq_true c54
                                clear c54
                                obtain ⟨y470, hy470⟩ : ∃ y_ : List (S40), y_ = (y465.set (ji32 : Int).toNat (⟨(rd_T40 t451 ji32).f0, (rd_T40 t451 ji32).f1⟩ : S40)) := ⟨_, rfl⟩
                                replace H : (if 0 ≤ (wrap64 (ji32 - 1)) then (if (wrap64 (ji32 - 1)) < (t451.length : Int) then ((dialtonelaw24_pick.f a5 3).bind fun t472 => ((some (y470.set (ji32 : Int).toNat (⟨(rd_T40 y470 ji32).f0, wrap64 ((wrap64 (((rd_T40 t451 (wrap64 (ji32 - 1))).f1) - 1)) - t472)⟩ : S40) : List (S40))).bind fun y473 => ((route_Right.f t443 y473).bind fun t474 => (if t474 = true then (none) else ((route_Blame.f t443 y473).bind fun t475 => (some (t475 == ji32))))))) else (none)) else (none)) = some r := by first | (rw [hy470]; with_reducible exact H) | (have H2_ := (Option.bind_some _ _).symm.trans H; rw [hy470]; with_reducible exact H2_) | (have H2_ := (Option.bind_some _ _).symm.trans H; with_reducible exact H2_) | with_reducible exact H | (rw [hy470]; exact H) | exact H
                                have Ny470 := Aside0.mk hy470
                                clear hy470
                                obtain ⟨ji56, hji56⟩ : ∃ j_ : Int, (wrap64 (ji32 - 1)) = j_ := ⟨_, rfl⟩
                                replace H : (if 0 ≤ (ji56) then (if (ji56) < (t451.length : Int) then ((dialtonelaw24_pick.f a5 3).bind fun t472 => ((some (y470.set (ji32 : Int).toNat (⟨(rd_T40 y470 ji32).f0, wrap64 ((wrap64 (((rd_T40 t451 (ji56)).f1) - 1)) - t472)⟩ : S40) : List (S40))).bind fun y473 => ((route_Right.f t443 y473).bind fun t474 => (if t474 = true then (none) else ((route_Blame.f t443 y473).bind fun t475 => (some (t475 == ji32))))))) else (none)) else (none)) = some r := by first | (rw [hji56] at H; exact H) | (simp only [hji56] at H ⊢; exact H)
                                have hji56w : (IntKind.i64.wrap (ji32 - 1)) = ji56 := (i64_w _).trans hji56
                                by_cases c57 : 0 ≤ (ji56)
                                · rw [if_pos c57] at H
                                  have c57b0 : decide (0 ≤ (ji56)) = true := decide_eq_true c57
                                  clear c57
                                  by_cases c58 : (ji56) < (t451.length : Int)
                                  · rw [if_pos c58] at H
                                    have c58b0 : decide ((ji56) < (t451.length : Int)) = true := decide_eq_true c58
                                    clear c58
                                    replace H := Option.bind_eq_some_iff.mp H
                                    obtain ⟨t472, A590, H⟩ := H
                                    replace H : ((some (y470.set (ji32 : Int).toNat (⟨(rd_T40 y470 ji32).f0, wrap64 ((wrap64 (((rd_T40 t451 (ji56)).f1) - 1)) - t472)⟩ : S40) : List (S40))).bind fun y473 => ((route_Right.f t443 y473).bind fun t474 => (if t474 = true then (none) else ((route_Blame.f t443 y473).bind fun t475 => (some (t475 == ji32)))))) = some r := H
                                    have A59 := Aside0.mk A590
                                    clear A590
                                    obtain ⟨y473, hy473⟩ : ∃ y_ : List (S40), y_ = (y470.set (ji32 : Int).toNat (⟨(rd_T40 y470 ji32).f0, wrap64 ((wrap64 (((rd_T40 t451 (ji56)).f1) - 1)) - t472)⟩ : S40)) := ⟨_, rfl⟩
                                    replace H : ((route_Right.f t443 y473).bind fun t474 => (if t474 = true then (none) else ((route_Blame.f t443 y473).bind fun t475 => (some (t475 == ji32))))) = some r := by first | (rw [hy473]; with_reducible exact H) | (have H2_ := (Option.bind_some _ _).symm.trans H; rw [hy473]; with_reducible exact H2_) | (have H2_ := (Option.bind_some _ _).symm.trans H; with_reducible exact H2_) | with_reducible exact H | (rw [hy473]; exact H) | exact H
                                    have Ny473 := Aside0.mk hy473
                                    clear hy473
                                    replace H := Option.bind_eq_some_iff.mp H
                                    obtain ⟨t474, A610, H⟩ := H
                                    replace H : (if t474 = true then (none) else ((route_Blame.f t443 y473).bind fun t475 => (some (t475 == ji32)))) = some r := H
                                    have A61 := Aside0.mk A610
                                    clear A610
                                    by_cases c62 : t474 = true
                                    · subst c62
                                      have H1 : (none) = some r := by rw [if_pos rfl] at H; exact H
                                      clear H
                                      have H := H1
                                      clear H1
                                      exact absurd H (by simp)
                                    · replace c62 := Bool.eq_false_iff.mpr c62
                                      subst c62
                                      have H1 : ((route_Blame.f t443 y473).bind fun t475 => (some (t475 == ji32))) = some r := by rw [if_neg (show ¬ (false = true) by decide)] at H; exact H
                                      clear H
                                      have H := H1
                                      clear H1
                                      replace H := Option.bind_eq_some_iff.mp H
                                      obtain ⟨t475, A630, H⟩ := H
                                      replace H : (some (t475 == ji32)) = some r := H
                                      have A63 := Aside0.mk A630
                                      clear A630
                                      obtain rfl := Option.some.inj H
                                      have p469 : 0 ≤ (ji32 : Int) := of_decide_eq_true (by first | (with_reducible assumption) | assumption)
                                      have q469 : ji32 < (t451.length : Int) := of_decide_eq_true (by first | (with_reducible assumption) | assumption)
                                      (try (obtain ⟨Ao_, co_, eo_⟩ := Kd.R_slice HO_17.out; cases eo_))
                                      obtain ⟨ad469, e469, hx469_0, hx469_1⟩ := at_T40 (Kd.R_reads' HO_17.out).2.2 ji32 p469 q469
                                      cases e469
                                      replace p469 := eq_true p469
                                      replace q469 := eq_true q469
                                      have p55 : 0 ≤ (ji32 : Int) := of_decide_eq_true (by first | (with_reducible assumption) | assumption)
                                      have q55 : (ji32 : Int) < ((y465.length : Int) : Int) := of_decide_eq_true (by first | (with_reducible assumption) | assumption)
                                      obtain ⟨ce55, hcl55, hM55, hcc55, hfr55⟩ := Kd.R_elem HO_21.out z40 (ji32 : Int) p55 q55
                                      obtain rfl := k40_openM hM55
                                      have hx55_0 : wc.cell? ⟨go35, (ji32 : Int).toNat * 2, none⟩ = some (.int .i64 ((rd_T40 y465 ji32).f0)) := hcc55 0 _ rfl
                                      have hx55_1 : wc.cell? ⟨go35, (ji32 : Int).toNat * 2 + 1, none⟩ = some (.int .i64 ((rd_T40 y465 ji32).f1)) := hcc55 1 _ rfl
                                      have hf55_0 : wc.frozen? ⟨go35, (ji32 : Int).toNat * 2, none⟩ = false := hfr55 0
                                      have hf55_1 : wc.frozen? ⟨go35, (ji32 : Int).toNat * 2 + 1, none⟩ = false := hfr55 1
                                      clear hcl55 hcc55 hfr55 hM55
                                      replace p55 := eq_true p55
                                      replace q55 := eq_true q55
                                      have HX64 := Aside0.mk (show Kd.R k40 40 wc w.heap.size (fun k_ => some k_ ≠ (.slice (some ad469) t451.length co37 : Value).ownBlock) (.slice (some ⟨go35, 0, none⟩) y465.length co35) y465 from (by (with_reducible repeat (first | apply Kd.R_alloc | apply Kd.R_drewN | apply Kd.R_drew)); exact HO_21.out))
                                      obtain ⟨ce64, hcl64, hM64, hcc64, hfr64⟩ := Kd.R_elem HX64.out z40 (ji32 : Int) (of_decide_eq_true (by first | (with_reducible assumption) | assumption)) (by have h_ : (ji32 : Int) < ((y465.length : Int) : Int) := of_decide_eq_true (by first | (with_reducible assumption) | assumption); first | exact h_ | (have e_ := (Kd.R_reads' HO_21.out).1; omega) | simpa using h_)
                                      obtain rfl := k40_openM hM64
                                      have HP64 := Kd.R_seg HX64.out (ji32 : Int) (of_decide_eq_true (by first | (with_reducible assumption) | assumption)) (by have h_ : (ji32 : Int) < ((y465.length : Int) : Int) := of_decide_eq_true (by first | (with_reducible assumption) | assumption); first | exact h_ | (have e_ := (Kd.R_reads' HO_21.out).1; omega) | simpa using h_) (seg := [.int .i64 ((rd_T40 t451 ji32).f0), .int .i64 ((rd_T40 t451 ji32).f1)]) (j := 0) hcl64 hcc64 (show 2 ≤ 2 from by decide) (x' := (⟨(rd_T40 t451 ji32).f0, (rd_T40 t451 ji32).f1⟩ : S40)) (k40_mkM _ _ _ (⟨(rd_T40 t451 ji32).f0, (rd_T40 t451 ji32).f1⟩ : S40) ) (fun _ hk => hk)
                                      have hx64_0 := hcc64 0 _ rfl
                                      (try simp only [show (k40).sz = 2 from rfl, Nat.mul_one, Nat.add_zero] at hx64_0)
                                      have hf64_0 := hfr64 0
                                      (try simp only [show (k40).sz = 2 from rfl, Nat.mul_one, Nat.add_zero] at hf64_0)
                                      have hx64_1 := hcc64 1 _ rfl
                                      (try simp only [show (k40).sz = 2 from rfl, Nat.mul_one, Nat.add_zero] at hx64_1)
                                      have hf64_1 := hfr64 1
                                      (try simp only [show (k40).sz = 2 from rfl, Nat.mul_one, Nat.add_zero] at hf64_1)
                                      clear hcl64 hcc64 hfr64 hM64
                                      try go_wp2_with (first | ((with_reducible refine gate_store (t := 40) (p := 100) rfl ?_); refine store_event (t := 40) (p := 100) (v := ?vo_w65) (w1 := ((wc.setCell ⟨go35, (ji32 : Int).toNat * 2, none⟩ (.int .i64 ((rd_T40 t451 ji32).f0))).setCell ⟨go35, (ji32 : Int).toNat * 2 + 1, none⟩ (.int .i64 ((rd_T40 t451 ji32).f1)))) ?hg ?ho ?hn ?hr ?_; (case ho => rfl); (case hg => rfl); (case hn => rfl); (case hr => first | (go_simp; done) | (go_simp; rfl)); intro w65 hw; have hg : wc.grownBy w65 (some go35) := (by rw [hw]; exact HP64.2); have hp_ : Kd.R k40 40 w65 w.heap.size (fun k_ => some k_ ≠ (.slice (some ad469) t451.length co37 : Value).ownBlock) (.slice (some ⟨go35, 0, none⟩) y465.length co35) y470 := (by rw [hw, Ny470.out]; exact HP64.1); clear HP64; have n0_ := Aside0.mk (Kd.R_over' (v := (.slice (some ⟨go35, 0, none⟩) y465.length co35)) (by (with_reducible repeat (first | apply Kd.R_alloc | apply Kd.R_drewN | apply Kd.R_drew)); exact HO_14.out) (Kd.R_typed HO_21.out) (by decide) hg); have n1_ := Aside0.mk (Kd.R_after (v := (.slice (some ⟨go35, 0, none⟩) y465.length co35)) (v1 := (.slice (some ⟨go35, 0, none⟩) y465.length co35)) (ok := (fun _ => True)) (by (with_reducible repeat (first | apply Kd.R_alloc | apply Kd.R_drewN | apply Kd.R_drew)); exact Kd.R_mono HO_17.out (fun _ hk => ⟨trivial, hk⟩)) hg (.inl rfl)); have n2_ := Aside0.mk (hp_); have n3_ := Aside0.mk ((by rw [hw]; exact below_set (below_set (HB.out) GB35.out) GB35.out : Below w.heap.size w w65)); clear HO_14; clear HO_17; clear HO_21; clear HB; have HO_14 := n0_; have HO_17 := n1_; have HO_21 := n2_; have HB := n3_; clear n0_ n1_ n2_ n3_; clear hg hw hp_))
                                      have n0_ := Aside0.mk (Kd.R_drew HO_14.out)
                                      have n1_ := Aside0.mk (Kd.R_drew HO_17.out)
                                      have n2_ := Aside0.mk (Kd.R_drew HO_21.out)
                                      have n3_ := Aside0.mk (below_drew1 HB.out)
                                      clear HO_14
                                      clear HO_17
                                      clear HO_21
                                      clear HB
                                      have HO_14 := n0_
                                      have HO_17 := n1_
                                      have HO_21 := n2_
                                      have HB := n3_
                                      clear n0_ n1_ n2_ n3_
                                      have p471 : 0 ≤ ((ji56) : Int) := of_decide_eq_true (by first | (with_reducible assumption) | assumption)
                                      have q471 : (ji56) < (t451.length : Int) := of_decide_eq_true (by first | (with_reducible assumption) | assumption)
                                      (try (obtain ⟨Ao_, co_, eo_⟩ := Kd.R_slice HO_17.out; cases eo_))
                                      obtain ⟨ad471, e471, hx471_0, hx471_1⟩ := at_T40 (Kd.R_reads' HO_17.out).2.2 (ji56) p471 q471
                                      obtain rfl : ad469 = ad471 := (by injection e471)
                                      replace p471 := eq_true p471
                                      replace q471 := eq_true q471
                                      refine start_ (n := 15) (S := fun w' => w'.cell? (ad469.add (((ji56)).toNat * 2)) = some (.int .i64 ((rd_T40 t451 (ji56)).f0)) ∧ w'.cell? ⟨(ad469.add (((ji56)).toNat * 2)).block, (ad469.add (((ji56)).toNat * 2)).off + 1, none⟩ = some (.int .i64 ((rd_T40 t451 (ji56)).f1))) (ds := [14]) #[false, false, false, false, false, false, false, false, false, false, false, false, false, false, false] (by kernel_rfl) rfl rfl ⟨hx471_0, hx471_1⟩ (fun hHeld => ?_); refine with_tabW dialtonelaw24_RouteShows.tab18 dialtonelaw24_RouteShows.bits18 (fun HT_ HW_ => ?_)
                                      generalize w65.drew = w66 at HO_14 HO_17 HO_21 HB hx471_0 hx471_1 hHeld ⊢
                                      refine pure_ (i := 0) (N := some 101) (v := ?_) (a' := ?_) #[true, false, false, false, false, false, false, false, false, false, false, false, false, false, false] rfl rfl (any_of HT_.out (by kernel_rfl)) (fun _ _ _ h => h) (Or.inl ⟨by rfl, ?_⟩) ?_ ?_
                                      rotate_left
                                      · intro w'
                                        go_simp
                                        with_reducible rfl
                                      rotate_left
                                      · simp only [Act.put, List.setIfInBounds_toArray, List.set_cons_zero, List.set_cons_succ, i64_w, i32_w]
                                        rfl
                                      refine pure_ (i := 1) (N := some 102) (v := ?_) (a' := ?_) #[true, true, false, false, false, false, false, false, false, false, false, false, false, false, false] rfl rfl (any_of HT_.out (by kernel_rfl)) (fun _ _ _ h => h) (Or.inl ⟨by rfl, ?_⟩) ?_ ?_
                                      rotate_left
                                      · intro w'
                                        go_simp
                                        with_reducible rfl
                                      rotate_left
                                      · simp only [Act.put, List.setIfInBounds_toArray, List.set_cons_zero, List.set_cons_succ, i64_w, i32_w]
                                        rfl
                                      refine pure_ (i := 2) (N := some 103) (v := ?_) (a' := ?_) #[true, true, true, false, false, false, false, false, false, false, false, false, false, false, false] rfl rfl (any_of HT_.out (by kernel_rfl)) (fun _ _ _ h => h) (Or.inl ⟨by rfl, ?_⟩) ?_ ?_
                                      rotate_left
                                      · intro w'
                                        go_simp
                                        with_reducible rfl
                                      rotate_left
                                      · simp only [Act.put, List.setIfInBounds_toArray, List.set_cons_zero, List.set_cons_succ, i64_w, i32_w]
                                        rfl
                                      refine pure_ (i := 3) (N := some 104) (v := ?_) (a' := ?_) #[true, true, true, true, false, false, false, false, false, false, false, false, false, false, false] rfl rfl (any_of HT_.out (by kernel_rfl)) (fun _ _ _ h => h) (Or.inl ⟨by rfl, ?_⟩) ?_ ?_
                                      rotate_left
                                      · intro w'
                                        go_simp
                                        with_reducible rfl
                                      rotate_left
                                      · simp only [Act.put, List.setIfInBounds_toArray, List.set_cons_zero, List.set_cons_succ, i64_w, i32_w]
                                        rfl
                                      refine pure_ (i := 4) (N := some 105) (v := ?_) (a' := ?_) #[true, true, true, true, true, false, false, false, false, false, false, false, false, false, false] rfl rfl (any_of HT_.out (by kernel_rfl)) (fun _ _ _ h => h) (Or.inl ⟨by rfl, ?_⟩) ?_ ?_
                                      rotate_left
                                      · intro w'
                                        go_simp
                                        with_reducible rfl
                                      rotate_left
                                      · simp only [Act.put, List.setIfInBounds_toArray, List.set_cons_zero, List.set_cons_succ, i64_w, i32_w]
                                        rfl
                                      refine pure_ (i := 5) (N := some 106) (v := ?_) (a' := ?_) #[true, true, true, true, true, true, false, false, false, false, false, false, false, false, false] rfl rfl (any_of HT_.out (by kernel_rfl)) (fun _ _ _ h => h) (Or.inl ⟨by rfl, ?_⟩) ?_ ?_
                                      rotate_left
                                      · intro w'
                                        go_simp
                                        with_reducible rfl
                                      rotate_left
                                      · simp only [Act.put, List.setIfInBounds_toArray, List.set_cons_zero, List.set_cons_succ, i64_w, i32_w]
                                        rfl
                                      refine pure_ (i := 6) (N := some 107) (v := ?_) (a' := ?_) #[true, true, true, true, true, true, true, false, false, false, false, false, false, false, false] rfl rfl (any_of HT_.out (by kernel_rfl)) (fun _ _ _ h => h) (Or.inl ⟨by rfl, ?_⟩) ?_ ?_
                                      rotate_left
                                      · intro w'
                                        go_simp
                                        with_reducible rfl
                                      rotate_left
                                      · simp only [Act.put, List.setIfInBounds_toArray, List.set_cons_zero, List.set_cons_succ, i64_w, i32_w]
                                        rfl
                                      refine pure_ (i := 9) (N := some 110) (v := ?_) (a' := ?_) #[true, true, true, true, true, true, true, false, false, true, false, false, false, false, false] rfl rfl (any_of HT_.out (by kernel_rfl)) (fun _ _ _ h => h) (Or.inl ⟨by rfl, ?_⟩) ?_ ?_
                                      rotate_left
                                      · intro w'
                                        go_simp
                                        with_reducible rfl
                                      rotate_left
                                      · simp only [Act.put, List.setIfInBounds_toArray, List.set_cons_zero, List.set_cons_succ, i64_w, i32_w]
                                        rfl
                                      refine take_ (i := 7) (N := some 108) (v := ?_) (a' := ?_) #[true, true, true, true, true, true, true, true, false, true, false, false, false, false, false] rfl rfl (take_ofW HT_.out HW_.out (by kernel_rfl)) (fun _ _ _ h => h) (Or.inl ⟨by rfl, ?_⟩) hHeld ?_ ?_
                                      rotate_left
                                      · rintro w' ⟨s0, s1⟩
                                        go_simp
                                        with_reducible rfl
                                      rotate_left
                                      · simp only [Act.put, List.setIfInBounds_toArray, List.set_cons_zero, List.set_cons_succ, i64_w, i32_w]
                                        rfl
                                      refine pure_ (i := 8) (N := some 109) (v := ?_) (a' := ?_) #[true, true, true, true, true, true, true, true, true, true, false, false, false, false, false] rfl rfl (any_of HT_.out (by kernel_rfl)) (fun _ _ _ h => h) (Or.inl ⟨by rfl, ?_⟩) ?_ ?_
                                      rotate_left
                                      · intro w'
                                        go_simp
                                        with_reducible rfl
                                      rotate_left
                                      · simp only [Act.put, List.setIfInBounds_toArray, List.set_cons_zero, List.set_cons_succ, i64_w, i32_w]
                                        rfl
                                      refine one_ (i := 10) (N := some 111) #[true, true, true, true, true, true, true, true, true, true, true, false, false, false, false] rfl rfl (one_of HT_.out (by kernel_rfl)) (by decide) (fun K hK => ?_)
                                      refine goes_ Try.func13 (by kernel_rfl) rfl #[.int .i64 a5, .int .i64 3] (by rfl) rfl rfl (by (try simp only [List.map_toArray, List.map_cons, List.map_nil]); first | done | rfl | (simp only [List.length_drop, List.length_take]; rfl)) ?_
                                      with_reducible refine (dialtonelaw24_pick.calls a5 3 t472 _ A59.out).mono ?_
                                      rintro e w' ⟨rfl, ⟨nd, rfl⟩⟩
                                      refine ⟨_, rfl, ?_⟩
                                      have p60 : 0 ≤ (ji32 : Int) := of_decide_eq_true (by first | (with_reducible assumption) | assumption)
                                      have q60 : (ji32 : Int) < ((y465.length : Int) : Int) := of_decide_eq_true (by first | (with_reducible assumption) | assumption)
                                      obtain ⟨ce60, hcl60, hM60, hcc60, hfr60⟩ := Kd.R_elem HO_21.out z40 (ji32 : Int) p60 q60
                                      obtain rfl := k40_openM hM60
                                      have hx60_0 : World.cell? _ ⟨go35, (ji32 : Int).toNat * 2, none⟩ = some (.int .i64 ((rd_T40 y470 ji32).f0)) := hcc60 0 _ rfl
                                      have hx60_1 : World.cell? _ ⟨go35, (ji32 : Int).toNat * 2 + 1, none⟩ = some (.int .i64 ((rd_T40 y470 ji32).f1)) := hcc60 1 _ rfl
                                      have hf60_0 : World.frozen? _ ⟨go35, (ji32 : Int).toNat * 2, none⟩ = false := hfr60 0
                                      have hf60_1 : World.frozen? _ ⟨go35, (ji32 : Int).toNat * 2 + 1, none⟩ = false := hfr60 1
                                      clear hcl60 hcc60 hfr60 hM60
                                      replace p60 := eq_true p60
                                      replace q60 := eq_true q60
                                      obtain ⟨ce67, hcl67, hM67, hcc67, hfr67⟩ := Kd.R_elem HO_21.out z40 (ji32 : Int) (of_decide_eq_true (by first | (with_reducible assumption) | assumption)) (by have h_ : (ji32 : Int) < ((y465.length : Int) : Int) := of_decide_eq_true (by first | (with_reducible assumption) | assumption); first | exact h_ | (have e_ := (Kd.R_reads' HO_21.out).1; omega) | simpa using h_)
                                      obtain rfl := k40_openM hM67
                                      have HP67 := (Kd.R_seg HO_21.out (ji32 : Int) (of_decide_eq_true (by first | (with_reducible assumption) | assumption)) (by have h_ : (ji32 : Int) < ((y465.length : Int) : Int) := of_decide_eq_true (by first | (with_reducible assumption) | assumption); first | exact h_ | (have e_ := (Kd.R_reads' HO_21.out).1; omega) | simpa using h_) (seg := [.int .i64 (wrap64 ((wrap64 (((rd_T40 t451 (ji56)).f1) - 1)) - t472))]) (j := 1) hcl67 hcc67 (show 2 ≤ 2 from by decide) (x' := (⟨(rd_T40 y470 ji32).f0, wrap64 ((wrap64 (((rd_T40 t451 (ji56)).f1) - 1)) - t472)⟩ : S40)) (k40_mkM _ _ _ (⟨(rd_T40 y470 ji32).f0, wrap64 ((wrap64 (((rd_T40 t451 (ji56)).f1) - 1)) - t472)⟩ : S40) ) (fun _ hk => hk)).1
                                      rw [← Ny473.out] at HP67
                                      have HQ67 := Aside0.mk HP67
                                      clear hcl67 hcc67 hfr67 hM67 HP67
                                      refine hK.out _ _ ⟨hHeld.1, hHeld.2⟩ (fun hHeld => ?_)
                                      clear hK K
                                      refine norm_ (a' := ?_) ?_ ?_
                                      rotate_left
                                      · show Act.put _ (some 111) _ = _
                                        simp only [Act.put, List.setIfInBounds_toArray, List.set_cons_zero, List.set_cons_succ, i64_w, i32_w]
                                        rfl
                                      refine pure_ (i := 11) (N := some 112) (v := ?_) (a' := ?_) #[true, true, true, true, true, true, true, true, true, true, true, true, false, false, false] rfl rfl (any_of HT_.out (by kernel_rfl)) (fun _ _ _ h => h) (Or.inl ⟨by rfl, ?_⟩) ?_ ?_
                                      rotate_left
                                      · intro w'
                                        go_simp
                                        with_reducible rfl
                                      rotate_left
                                      · simp only [Act.put, List.setIfInBounds_toArray, List.set_cons_zero, List.set_cons_succ, i64_w, i32_w]
                                        rfl
                                      refine pure_ (i := 12) (N := some 113) (v := ?_) (a' := ?_) #[true, true, true, true, true, true, true, true, true, true, true, true, true, false, false] rfl rfl (any_of HT_.out (by kernel_rfl)) (fun _ _ _ h => h) (Or.inl ⟨by rfl, ?_⟩) ?_ ?_
                                      rotate_left
                                      · intro w'
                                        go_simp
                                        with_reducible rfl
                                      rotate_left
                                      · simp only [Act.put, List.setIfInBounds_toArray, List.set_cons_zero, List.set_cons_succ, i64_w, i32_w]
                                        rfl
                                      refine pure_ (i := 13) (N := some 114) (v := ?_) (a' := ?_) #[true, true, true, true, true, true, true, true, true, true, true, true, true, true, false] rfl rfl (any_of HT_.out (by kernel_rfl)) (fun _ _ _ h => h) (Or.inl ⟨by rfl, ?_⟩) ?_ ?_
                                      rotate_left
                                      · intro w'
                                        go_simp
                                        with_reducible rfl
                                      rotate_left
                                      · simp only [Act.put, List.setIfInBounds_toArray, List.set_cons_zero, List.set_cons_succ, i64_w, i32_w]
                                        rfl
                                      refine last_ (i := 14) (N := none) #[true, true, true, true, true, true, true, true, true, true, true, true, true, true, true] rfl rfl (one_of HT_.out (by kernel_rfl)) (by decide) (fun K hK => ?_)
                                      refine skip_ (w1 := ?_) (by rfl) rfl ?_ ?_
                                      rotate_left
                                      · go_simp
                                        rfl
                                      refine hK.out _ _ ?_
                                      clear hK K
                                      refine done_ (done_of HT_.out (by kernel_rfl)) ?_
                                      try go_wp2_with (first | ((with_reducible refine gate_callee (f := 24) rfl ?_); refine goesL_ (some 117) rfl rfl Try.func24 (by kernel_rfl) rfl #[.slice Ao16 t443.length co16, .slice (some ⟨go35, 0, none⟩) y473.length co35] rfl (by (try simp only [List.map_toArray, List.map_cons, List.map_nil]); first | done | (rw [show y473.length = y465.length from (Kd.R_reads' HQ67.out).1.symm] <;> rfl) | rfl | (simp only [List.length_drop, List.length_take]; rfl)) ?_; (with_reducible refine (route_Right.calls _ _ t443 _ _ y473 false _ ?side1 ?side2 ?side3 ?side4 A61.out).mono ?_); (case side1 => refine (Kd.R_reads' (e := 3) (base := w.heap.size) (ok := fun k_ => True) (n := t443.length) (c := co16) ?_).2.2; exact (by (with_reducible repeat (first | apply Kd.R_alloc | apply Kd.R_drewN | apply Kd.R_drew)); exact (Kd.R_mono (Kd.R_far (p := ⟨go35, (ji32 : Int).toNat * 2 + 1, none⟩) (R_types_row HO_14.out HO_21.out (by decide)) (fun _ hk => by exact hk.2) (.int .i64 (wrap64 ((wrap64 (((rd_T40 t451 (ji56)).f1) - 1)) - t472)))) (fun _ h_ => h_.1)))); (case side2 => exact (Kd.R_reads' HO_14.out).2.1); (case side3 => refine (Kd.R_reads' (e := 40) (base := w.heap.size) (ok := fun k_ => some k_ ≠ (.slice (some ad469) t451.length co37 : Value).ownBlock) (n := y465.length) (c := co35) ?_).2.2; exact (by (with_reducible repeat (first | apply Kd.R_alloc | apply Kd.R_drewN | apply Kd.R_drew)); exact HQ67.out)); (case side4 => rw [show y473.length = y465.length from (Kd.R_reads' HQ67.out).1.symm]; exact (Kd.R_reads' HO_21.out).2.1); rintro e w68 ⟨rfl, hb⟩; refine ⟨_, rfl, ?_⟩; have n0_ := Aside0.mk (Kd.R_below (by (with_reducible repeat (first | apply Kd.R_alloc | apply Kd.R_drewN | apply Kd.R_drew)); exact (Kd.R_mono (Kd.R_far (p := ⟨go35, (ji32 : Int).toNat * 2 + 1, none⟩) (R_types_row HO_14.out HO_21.out (by decide)) (fun _ hk => by exact hk.2) (.int .i64 (wrap64 ((wrap64 (((rd_T40 t451 (ji56)).f1) - 1)) - t472)))) (fun _ h_ => h_.1))) hb); have n1_ := Aside0.mk (Kd.R_below (by (with_reducible repeat (first | apply Kd.R_alloc | apply Kd.R_drewN | apply Kd.R_drew)); exact (Kd.R_mono (Kd.R_far (p := ⟨go35, (ji32 : Int).toNat * 2 + 1, none⟩) (Kd.R_mono HO_17.out (fun k_ hk => (⟨hk, fun e_ => hk.2 (by rw [e_]; rfl)⟩ : _ ∧ k_ ≠ go35))) (fun _ hk => by exact hk.2) (.int .i64 (wrap64 ((wrap64 (((rd_T40 t451 (ji56)).f1) - 1)) - t472)))) (fun _ h_ => h_.1))) hb); have n2_ := Aside0.mk (Kd.R_below (by (with_reducible repeat (first | apply Kd.R_alloc | apply Kd.R_drewN | apply Kd.R_drew)); exact HQ67.out) hb); have n3_ := Aside0.mk (below_step (by repeat (first | (with_reducible first | exact HB.out | apply below_alloc | apply pw_below_drewN | apply below_drew1 | refine below_set ?_ GB35.out) | exact HB.out)) hb); clear HO_14; clear HO_17; clear HO_21; clear HB; have HO_14 := n0_; have HO_17 := n1_; have HO_21 := n2_; have HB := n3_; clear n0_ n1_ n2_ n3_; (try clear hb); (try clear hb2); (try clear hk); (try clear hi)) | (go_at_call 26; refine calls_of_args (args' := #[.slice Ao16 t443.length co16, .slice (some ⟨go35, 0, none⟩) y473.length co35]) (by first | (rw [show y473.length = y465.length from (Kd.R_reads' HO_21.out).1.symm] <;> rfl) | rfl) ?_; (with_reducible refine (route_Blame.calls _ _ t443 _ _ y473 t475 _ ?side1 ?side2 ?side3 ?side4 A63.out).mono ?_); (case side1 => repeat (first | exact (Kd.R_reads' HO_14.out).2.2 | (with_reducible refine Kd.C_alloc ?_ _) | (with_reducible refine Kd.C_drewN ?_ _) | (with_reducible refine Kd.C_drew ?_))); (case side2 => exact (Kd.R_reads' HO_14.out).2.1); (case side3 => repeat (first | exact (Kd.R_reads' HO_21.out).2.2 | (with_reducible refine Kd.C_alloc ?_ _) | (with_reducible refine Kd.C_drewN ?_ _) | (with_reducible refine Kd.C_drew ?_))); (case side4 => rw [show y473.length = y465.length from (Kd.R_reads' HO_21.out).1.symm]; exact (Kd.R_reads' HO_21.out).2.1); rintro e w69 ⟨rfl, hb⟩; have n0_ := Aside0.mk (Kd.R_below (by (with_reducible repeat (first | apply Kd.R_alloc | apply Kd.R_drewN | apply Kd.R_drew)); exact HO_14.out) hb); have n1_ := Aside0.mk (Kd.R_below (by (with_reducible repeat (first | apply Kd.R_alloc | apply Kd.R_drewN | apply Kd.R_drew)); exact HO_17.out) hb); have n2_ := Aside0.mk (Kd.R_below (by (with_reducible repeat (first | apply Kd.R_alloc | apply Kd.R_drewN | apply Kd.R_drew)); exact HO_21.out) hb); have n3_ := Aside0.mk (below_step (by repeat (first | (with_reducible first | exact HB.out | apply below_alloc | apply pw_below_drewN | apply below_drew1) | exact HB.out)) hb); clear HO_14; clear HO_17; clear HO_21; clear HB; have HO_14 := n0_; have HO_17 := n1_; have HO_21 := n2_; have HB := n3_; clear n0_ n1_ n2_ n3_; (try clear hb); (try clear hb2); (try clear hk); (try clear hi)))
                                      go_ret
                                      exact ⟨by first | rfl | (simp [errW_none, errW_some] <;> rfl) | (simp only [← hji32, ← hji56]; first | rfl | (simp [errW_none, errW_some] <;> rfl)) | (simp [*, errW_none, errW_some] <;> rfl), by repeat (first | (with_reducible first | exact HB.out | apply below_alloc | apply pw_below_drewN | apply below_drew1) | exact HB.out)⟩
                                  · rw [if_neg c58] at H
                                    exact absurd H (by simp)
                                · rw [if_neg c57] at H
                                  exact absurd H (by simp)
                              · rw [if_neg c54] at H
                                exact absurd H (by simp)
                            · rw [if_neg c53] at H
                              exact absurd H (by simp)
                          · rw [if_neg c52] at H
                            exact absurd H (by simp)
                  · rw [if_neg c34] at H
                    exact absurd H (by simp)
                · rw [if_neg c33] at H
                  exact absurd H (by simp)
              · rw [if_neg c31] at H
                exact absurd H (by simp)
    · rw [if_neg c12] at H
      have c12b0 : (t453 == 0) = false := beq_eq_false_iff_ne.mpr c12
      have c12b1 : (t453 != 0) = true := bne_iff_ne.mpr c12
      obtain rfl := Option.some.inj H
      go_enter Try.func8, Try.ntmps8
      go_wp2_with (first | ((with_reducible refine gate_callee (f := 11) rfl ?_); refine goesL_ (some 22) rfl rfl Try.func11 (by kernel_rfl) rfl #[] rfl (by (try simp only [List.map_toArray, List.map_cons, List.map_nil]); first | done | rfl | (simp only [List.length_drop, List.length_take]; rfl)) ?_; (with_reducible refine (dialtonelaw24_sane.calls k  true _ A7.out).mono ?_); rintro e w70 ⟨rfl, hb⟩; refine ⟨_, rfl, ?_⟩; have n0_ := Aside0.mk (below_step (by repeat (first | (with_reducible first | exact HB.out | apply below_alloc | apply pw_below_drewN | apply below_drew1) | exact HB.out)) hb); clear HB; have HB := n0_; clear n0_; (try clear hb); (try clear hb2); (try clear hk); (try clear hi)) | ((with_reducible refine gate_callee (f := 12) rfl ?_); refine goesL_ (some 29) rfl rfl Try.func12 (by kernel_rfl) rfl #[.slice A0 l0.length c0, .slice A1 l1.length c1, .int .i64 a2] rfl (by (try simp only [List.map_toArray, List.map_cons, List.map_nil]); first | done | rfl | (simp only [List.length_drop, List.length_take]; rfl)) ?_; (with_reducible refine (dialtoneref24_Made.calls k _ _ l0 _ _ l1 a2 t443 t444 t445 _ ?side1 ?side2 ?side3 ?side4 A9.out).mono ?_); (case side1 => repeat (first | exact (Kd.C_below HR0.out HB.out) | (with_reducible refine Kd.C_alloc ?_ _) | (with_reducible refine Kd.C_drewN ?_ _) | (with_reducible refine Kd.C_drew ?_))); (case side2 => exact HC0.out); (case side3 => repeat (first | exact (Kd.C_below HR1.out HB.out) | (with_reducible refine Kd.C_alloc ?_ _) | (with_reducible refine Kd.C_drewN ?_ _) | (with_reducible refine Kd.C_drew ?_))); (case side4 => exact HC1.out); rintro e w71 ⟨v446, v448, rfl, ho0, ho1, hb⟩; refine ⟨_, rfl, ?_⟩; have n0_ := Aside0.mk (Kd.R_lower ho0 (below_size (by repeat (first | (with_reducible first | exact HB.out | apply below_alloc | apply pw_below_drewN | apply below_drew1) | exact HB.out)))); have n1_ := Aside0.mk (Kd.R_lower ho1 (below_size (by repeat (first | (with_reducible first | exact HB.out | apply below_alloc | apply pw_below_drewN | apply below_drew1) | exact HB.out)))); have n2_ := Aside0.mk (below_step (by repeat (first | (with_reducible first | exact HB.out | apply below_alloc | apply pw_below_drewN | apply below_drew1) | exact HB.out)) hb); clear HB; have HO447 := n0_; have HO449 := n1_; have HB := n2_; clear n0_ n1_ n2_; (try clear hb); (try clear hb2); (try clear hk); (try clear hi); (try clear ho0); (try clear ho1)) | ((with_reducible refine gate_callee (f := 13) rfl ?_); refine goesL_ (some 38) rfl rfl Try.func13 (by kernel_rfl) rfl #[.int .i64 a3, .int .i64 8] rfl (by (try simp only [List.map_toArray, List.map_cons, List.map_nil]); first | done | rfl | (simp only [List.length_drop, List.length_take]; rfl)) ?_; (with_reducible refine (dialtonelaw24_pick.calls a3 8 t450 _ A10.out).mono ?_); rintro e w' ⟨rfl, ⟨nd, rfl⟩⟩; refine ⟨_, rfl, ?_⟩; obtain ⟨Ao72, co72, eo72⟩ := Kd.R_slice HO447.out; subst eo72; obtain ⟨Ao73, co73, eo73⟩ := Kd.R_slice HO449.out; subst eo73) | ((with_reducible refine gate_callee (f := 16) rfl ?_); refine goesL_ (some 39) rfl rfl Try.func16 (by kernel_rfl) rfl #[.slice Ao72 t443.length co72, .slice Ao73 t444.length co73, .int .i64 t445, .int .i64 t450] rfl (by (try simp only [List.map_toArray, List.map_cons, List.map_nil]); first | done | rfl | (simp only [List.length_drop, List.length_take]; rfl)) ?_; (with_reducible refine (route_Path.calls k _ _ t443 _ _ t444 t445 t450 t451 t452 t453 _ ?side1 ?side2 ?side3 ?side4 A11.out).mono ?_); (case side1 => repeat (first | exact (Kd.R_reads' HO447.out).2.2 | (with_reducible refine Kd.C_alloc ?_ _) | (with_reducible refine Kd.C_drewN ?_ _) | (with_reducible refine Kd.C_drew ?_))); (case side2 => exact (Kd.R_reads' HO447.out).2.1); (case side3 => repeat (first | exact (Kd.R_reads' HO449.out).2.2 | (with_reducible refine Kd.C_alloc ?_ _) | (with_reducible refine Kd.C_drewN ?_ _) | (with_reducible refine Kd.C_drew ?_))); (case side4 => exact (Kd.R_reads' HO449.out).2.1); rintro e w74 ⟨v454, rfl, ho0, hb⟩; refine ⟨_, rfl, ?_⟩; have n0_ := Aside0.mk (Kd.R_below (by (with_reducible repeat (first | apply Kd.R_alloc | apply Kd.R_drewN | apply Kd.R_drew)); exact HO447.out) hb); have n1_ := Aside0.mk (Kd.R_below (by (with_reducible repeat (first | apply Kd.R_alloc | apply Kd.R_drewN | apply Kd.R_drew)); exact HO449.out) hb); have n2_ := Aside0.mk (Kd.R_lower ho0 (below_size (by repeat (first | (with_reducible first | exact HB.out | apply below_alloc | apply pw_below_drewN | apply below_drew1) | exact HB.out)))); have n3_ := Aside0.mk (below_step (by repeat (first | (with_reducible first | exact HB.out | apply below_alloc | apply pw_below_drewN | apply below_drew1) | exact HB.out)) hb); clear HO447; clear HO449; clear HB; have HO447 := n0_; have HO449 := n1_; have HO455 := n2_; have HB := n3_; clear n0_ n1_ n2_ n3_; (try clear hb); (try clear hb2); (try clear hk); (try clear hi); (try clear ho0)))
      go_ret
      exact ⟨by first | rfl | (simp [errW_none, errW_some] <;> rfl) | (simp [*, errW_none, errW_some] <;> rfl), by repeat (first | (with_reducible first | exact HB.out | apply below_alloc | apply pw_below_drewN | apply below_drew1) | exact HB.out)⟩
  · replace c8 := Bool.eq_false_iff.mpr c8
    subst c8
    have H1 : (none) = some r := by rw [if_neg (show ¬ (false = true) by decide)] at H; exact H
    clear H
    have H := H1
    clear H1
    exact absurd H (by simp)

/-- THE ONE PURE STATEMENT of dialtonelaw24_RouteShows: yours. -/
def dialtonelaw24_RouteShows.Pure : Prop := ∀ (l0 : List Int) (l1 : List Int) (a2 : Int) (a3 : Int) (a4 : Int) (a5 : Int), l0.length ≤ maxLen → l0.length * 8 ≤ 140737488351232 → (∀ x ∈ l0, (Lit.int .i64 x).wf = true) → l1.length ≤ maxLen → l1.length * 8 ≤ 140737488351232 → (∀ x ∈ l1, (Lit.int .i64 x).wf = true) → (Lit.int .i64 a2).wf = true → (Lit.int .i64 a3).wf = true → (Lit.int .i64 a4).wf = true → (Lit.int .i64 a5).wf = true → ∃ k, dialtonelaw24_RouteShows.f k l0 l1 a2 a3 a4 a5 = some true
theorem dialtonelaw24_RouteShows.walk (P : dialtonelaw24_RouteShows.Pure) (a0 : Option Addr) (len0 cap0 : Nat) (z0 : List Int) (a1 : Option Addr) (len1 cap1 : Nat) (z1 : List Int) (a2 : Int) (a3 : Int) (a4 : Int) (a5 : Int) (w : World) (w0 : (a0 = none ∧ len0 = 0 ∧ cap0 = 0 ∧ z0 = []) ∨ ∃ x, a0 = some x ∧ len0 ≤ cap0 ∧ cap0 ≤ maxLen ∧ z0.length = cap0 ∧ (∀ i, i < z0.length → w.cell? (x.add i) = some (.int .i64 (z0.getD i 0))) ∧ ∀ n ∈ z0, (Lit.int .i64 n).wf = true) (y0 : len0 * 8 ≤ 140737488351232) (w1 : (a1 = none ∧ len1 = 0 ∧ cap1 = 0 ∧ z1 = []) ∨ ∃ x, a1 = some x ∧ len1 ≤ cap1 ∧ cap1 ≤ maxLen ∧ z1.length = cap1 ∧ (∀ i, i < z1.length → w.cell? (x.add i) = some (.int .i64 (z1.getD i 0))) ∧ ∀ n ∈ z1, (Lit.int .i64 n).wf = true) (y1 : len1 * 8 ≤ 140737488351232) (w2 : (Lit.int .i64 a2).wf = true) (w3 : (Lit.int .i64 a3).wf = true) (w4 : (Lit.int .i64 a4).wf = true) (w5 : (Lit.int .i64 a5).wf = true) :
    Calls Try.prog 8 #[.slice a0 len0 cap0, .slice a1 len1 cap1, .int .i64 a2, .int .i64 a3, .int .i64 a4, .int .i64 a5] w fun e w' => e = .returned (.bool true) ∧ Below w.heap.size w w' := by
  obtain ⟨l0, rfl, hr0, hm0, hw0, hc0⟩ := ReadsInt.ofRowC w0
  obtain ⟨l1, rfl, hr1, hm1, hw1, hc1⟩ := ReadsInt.ofRowC w1
  obtain ⟨k, h⟩ := P l0 l1 a2 a3 a4 a5 hm0 y0 hw0 hm1 y1 hw1 w2 w3 w4 w5
  refine (dialtonelaw24_RouteShows.calls k _ _ l0 _ _ l1 a2 a3 a4 a5 true w (Kd.C_of_reads (d := (0 : Int)) (h1 := fun _ => rfl) hr0) hc0 (Kd.C_of_reads (d := (0 : Int)) (h1 := fun _ => rfl) hr1) hc1 h).mono ?_
  rintro e w' ⟨rfl, hd⟩
  exact ⟨rfl, hd⟩

end Go.Proofs.Ytmiahmpobpokmaa.P
