-- PRINTED by print.py (a twelfth state) out of the translation. Not trusted: Lean checks it.
import Derived.Test.YtmiahmpobpokmaaPx0
import Derived.Test.YtmiahmpobpokmaaPx6
import Derived.Test.YtmiahmpobpokmaaPx12
import Derived.Test.YtmiahmpobpokmaaPx15
namespace Go.Proofs.Ytmiahmpobpokmaa.P
open Go.RowKit Go.Proofs.YtmiahmpobpokmaaW.PrintWords Go.Proofs.YtmiahmpobpokmaaW.PrintLast Go.Proofs.YtmiahmpobpokmaaW.PrintMore Go.Proofs.YtmiahmpobpokmaaH Go.Proofs.YtmiahmpobpokmaaR
attribute [local go_sem] max2_int min2_int max_two min_two max_three min_three max_four min_four   -- for this text's walks alone
set_option linter.unusedVariables false
set_option linter.unusedSimpArgs false

/-! ### dialtonelaw24_RouteHolds: function 5 -/
mutual
def dialtonelaw24_RouteHolds.j0 : Nat → List Int → List Int → List (S40) → Int → Bool → Int → Int → Option (Bool)
  | 0, _, _, _, _, _, _, _ => none
  | k + 1, x10, x11, x13, x14, x82, x375000, x375001 => if x82 = true then (none) else (dialtonelaw24_RouteHolds.l0 k x10 x11 x13 x14 0 x375000 x375001)
def dialtonelaw24_RouteHolds.l0 : Nat → List Int → List Int → List (S40) → Int → Int → Int → Int → Option (Bool)
  | 0, _, _, _, _, _, _, _ => none
  | k + 1, x10, x11, x13, x14, x17, x375000, x375001 => if x17 < (x13.length : Int) then (if 0 ≤ x17 then (if ((rd_T40 x13 x17).f0) < 0 then (none) else (if ((rd_T40 x13 x17).f0) > 7 then (none) else (if 0 ≤ ((rd_T40 x13 x17).f0) then (if ((rd_T40 x13 x17).f0) < (x11.length : Int) then (if (rd x11 ((rd_T40 x13 x17).f0)) < 0 then (none) else (if (rd x11 ((rd_T40 x13 x17).f0)) > x375001 then (none) else (dialtonelaw24_RouteHolds.l0 k x10 x11 x13 x14 (wrap64 (x17 + 1)) x375000 x375001))) else (none)) else (none)))) else (none)) else (if 0 ≤ x375001 then (if x375001 < (x10.length : Int) then (if x14 = 1 then (some ((rd x10 x375001) == x375000)) else (if x14 = 2 then (some ((rd x10 x375001) == (-1))) else (if x14 = 3 then (if (rd x10 x375001) ≥ 0 then (if (rd x10 x375001) = x375000 then (none) else (if 0 ≤ (rd x10 x375001) then (if (rd x10 x375001) < (x11.length : Int) then (some ((rd x11 (rd x10 x375001)) == (-1))) else (none)) else (none))) else (none)) else (none)))) else (none)) else (none))
end
def dialtonelaw24_RouteHolds.f (k : Nat) (l0 : List Int) (l1 : List Int) (a2 : Int) (a3 : Int) : Option (Bool) := (dialtonelaw24_sane.f k).bind fun t359 => (if t359 = true then ((dialtoneref24_Made.f k l0 l1 a2).bind fun bt360 => ((dialtonelaw24_pick.f a3 8).bind fun t367 => ((route_Path.f k bt360.1 bt360.2.1 bt360.2.2 t367).bind fun bt368 => (if bt368.2.2 = 0 then (if (bt368.1.length : Int) = 0 then (none) else (if 0 ≤ (wrap64 ((bt368.1.length : Int) - 1)) then (if (wrap64 ((bt368.1.length : Int) - 1)) < (bt368.1.length : Int) then (if ((rd_T40 bt368.1 (wrap64 ((bt368.1.length : Int) - 1))).f1) < 0 then (dialtonelaw24_RouteHolds.j0 k bt360.1 bt360.2.1 bt368.1 bt368.2.1 true ((rd_T40 bt368.1 (wrap64 ((bt368.1.length : Int) - 1))).f0) ((rd_T40 bt368.1 (wrap64 ((bt368.1.length : Int) - 1))).f1)) else (if ((rd_T40 bt368.1 (wrap64 ((bt368.1.length : Int) - 1))).f1) ≥ (bt360.1.length : Int) then (dialtonelaw24_RouteHolds.j0 k bt360.1 bt360.2.1 bt368.1 bt368.2.1 true ((rd_T40 bt368.1 (wrap64 ((bt368.1.length : Int) - 1))).f0) ((rd_T40 bt368.1 (wrap64 ((bt368.1.length : Int) - 1))).f1)) else (if ((rd_T40 bt368.1 (wrap64 ((bt368.1.length : Int) - 1))).f1) < (wrap64 ((wrap64 ((bt360.1.length : Int) - 1)) - bt360.2.2)) then (dialtonelaw24_RouteHolds.j0 k bt360.1 bt360.2.1 bt368.1 bt368.2.1 true ((rd_T40 bt368.1 (wrap64 ((bt368.1.length : Int) - 1))).f0) ((rd_T40 bt368.1 (wrap64 ((bt368.1.length : Int) - 1))).f1)) else (if ((rd_T40 bt368.1 (wrap64 ((bt368.1.length : Int) - 1))).f0) < 0 then (dialtonelaw24_RouteHolds.j0 k bt360.1 bt360.2.1 bt368.1 bt368.2.1 true ((rd_T40 bt368.1 (wrap64 ((bt368.1.length : Int) - 1))).f0) ((rd_T40 bt368.1 (wrap64 ((bt368.1.length : Int) - 1))).f1)) else (dialtonelaw24_RouteHolds.j0 k bt360.1 bt360.2.1 bt368.1 bt368.2.1 (decide (((rd_T40 bt368.1 (wrap64 ((bt368.1.length : Int) - 1))).f0) > 7)) ((rd_T40 bt368.1 (wrap64 ((bt368.1.length : Int) - 1))).f0) ((rd_T40 bt368.1 (wrap64 ((bt368.1.length : Int) - 1))).f1)))))) else (none)) else (none))) else (some (bt368.2.2 == 240)))))) else (none))
theorem dialtonelaw24_RouteHolds.mono_l : ∀ k, (∀ y0 y1 y2 y3 y4 y5 y6, LeO (dialtonelaw24_RouteHolds.j0 k y0 y1 y2 y3 y4 y5 y6) (dialtonelaw24_RouteHolds.j0 (k + 1) y0 y1 y2 y3 y4 y5 y6)) ∧ (∀ y0 y1 y2 y3 y4 y5 y6, LeO (dialtonelaw24_RouteHolds.l0 k y0 y1 y2 y3 y4 y5 y6) (dialtonelaw24_RouteHolds.l0 (k + 1) y0 y1 y2 y3 y4 y5 y6))
  | 0 => ⟨fun _ _ _ _ _ _ _ r h => by simp [dialtonelaw24_RouteHolds.j0] at h, fun _ _ _ _ _ _ _ r h => by simp [dialtonelaw24_RouteHolds.l0] at h⟩
  | k + 1 => by
    obtain ⟨ih0, ih1⟩ := dialtonelaw24_RouteHolds.mono_l k
    refine ⟨?_, ?_⟩
    · intro y0 y1 y2 y3 y4 y5 y6
      unfold dialtonelaw24_RouteHolds.j0
      repeat' first
      | (with_reducible exact ih0 _ _ _ _ _ _ _)
      | (with_reducible exact ih1 _ _ _ _ _ _ _)
      | (with_reducible exact dialtonelaw24_sane.mono _)
      | (with_reducible exact dialtoneref24_Made.mono _ _ _ _)
      | (with_reducible exact route_Path.mono _ _ _ _ _)
      | (with_reducible exact LeO.refl _)
      | (with_reducible exact LeO.none _)
      | (with_reducible refine LeO.ite ?_ ?_)
      | (with_reducible refine LeO.bind ?_ (fun _ => ?_))
      | exact ih0 _ _ _ _ _ _ _
      | exact ih1 _ _ _ _ _ _ _
      | exact dialtonelaw24_sane.mono _
      | exact dialtoneref24_Made.mono _ _ _ _
      | exact route_Path.mono _ _ _ _ _
      | exact LeO.none _
      | refine LeO.ite ?_ ?_
      | refine LeO.bind ?_ (fun _ => ?_)
    · intro y0 y1 y2 y3 y4 y5 y6
      unfold dialtonelaw24_RouteHolds.l0
      repeat' first
      | (with_reducible exact ih0 _ _ _ _ _ _ _)
      | (with_reducible exact ih1 _ _ _ _ _ _ _)
      | (with_reducible exact dialtonelaw24_sane.mono _)
      | (with_reducible exact dialtoneref24_Made.mono _ _ _ _)
      | (with_reducible exact route_Path.mono _ _ _ _ _)
      | (with_reducible exact LeO.refl _)
      | (with_reducible exact LeO.none _)
      | (with_reducible refine LeO.ite ?_ ?_)
      | (with_reducible refine LeO.bind ?_ (fun _ => ?_))
      | exact ih0 _ _ _ _ _ _ _
      | exact ih1 _ _ _ _ _ _ _
      | exact dialtonelaw24_sane.mono _
      | exact dialtoneref24_Made.mono _ _ _ _
      | exact route_Path.mono _ _ _ _ _
      | exact LeO.none _
      | refine LeO.ite ?_ ?_
      | refine LeO.bind ?_ (fun _ => ?_)
theorem dialtonelaw24_RouteHolds.mono : ∀ a0 a1 a2 a3 k, LeO (dialtonelaw24_RouteHolds.f k a0 a1 a2 a3) (dialtonelaw24_RouteHolds.f (k + 1) a0 a1 a2 a3) := by
  intro a0 a1 a2 a3 k
  obtain ⟨ih0, ih1⟩ := dialtonelaw24_RouteHolds.mono_l k
  unfold dialtonelaw24_RouteHolds.f
  repeat' first
      | (with_reducible exact ih0 _ _ _ _ _ _ _)
      | (with_reducible exact ih1 _ _ _ _ _ _ _)
      | (with_reducible exact dialtonelaw24_sane.mono _)
      | (with_reducible exact dialtoneref24_Made.mono _ _ _ _)
      | (with_reducible exact route_Path.mono _ _ _ _ _)
      | (with_reducible exact LeO.refl _)
      | (with_reducible exact LeO.none _)
      | (with_reducible refine LeO.ite ?_ ?_)
      | (with_reducible refine LeO.bind ?_ (fun _ => ?_))
      | exact ih0 _ _ _ _ _ _ _
      | exact ih1 _ _ _ _ _ _ _
      | exact dialtonelaw24_sane.mono _
      | exact dialtoneref24_Made.mono _ _ _ _
      | exact route_Path.mono _ _ _ _ _
      | exact LeO.none _
      | refine LeO.ite ?_ ?_
      | refine LeO.bind ?_ (fun _ => ?_)
set_option maxHeartbeats 8000000 in
set_option maxRecDepth 100000 in
theorem dialtonelaw24_RouteHolds.calls (k : Nat) (A0 : Option Addr) (c0 : Nat) (l0 : List Int) (A1 : Option Addr) (c1 : Nat) (l1 : List Int) (a2 : Int) (a3 : Int) (r : Bool) (w : World) (hr0 : Kd.C (Kd.int .i64) w A0 l0.length l0) (hc0 : l0.length ≤ c0) (hr1 : Kd.C (Kd.int .i64) w A1 l1.length l1) (hc1 : l1.length ≤ c1) (h : dialtonelaw24_RouteHolds.f k l0 l1 a2 a3 = some r) :
    Calls Try.prog 5 #[.slice A0 l0.length c0, .slice A1 l1.length c1, .int .i64 a2, .int .i64 a3] w fun e w' => e = .returned (.bool r) ∧ Below w.heap.size w w' := by
  have hu40 := Try.underlying40
  have HR0 := Aside0.mk hr0
  have HC0 := Aside0.mk hc0
  clear hr0 hc0
  have HR1 := Aside0.mk hr1
  have HC1 := Aside0.mk hc1
  clear hr1 hc1
  have HB := Aside0.mk (Below.refl w.heap.size w)
  have H : ((dialtonelaw24_sane.f k).bind fun t359 => (if t359 = true then ((dialtoneref24_Made.f k l0 l1 a2).bind fun bt360 => ((dialtonelaw24_pick.f a3 8).bind fun t367 => ((route_Path.f k bt360.1 bt360.2.1 bt360.2.2 t367).bind fun bt368 => (if bt368.2.2 = 0 then (if (bt368.1.length : Int) = 0 then (none) else (if 0 ≤ (wrap64 ((bt368.1.length : Int) - 1)) then (if (wrap64 ((bt368.1.length : Int) - 1)) < (bt368.1.length : Int) then (if ((rd_T40 bt368.1 (wrap64 ((bt368.1.length : Int) - 1))).f1) < 0 then (dialtonelaw24_RouteHolds.j0 k bt360.1 bt360.2.1 bt368.1 bt368.2.1 true ((rd_T40 bt368.1 (wrap64 ((bt368.1.length : Int) - 1))).f0) ((rd_T40 bt368.1 (wrap64 ((bt368.1.length : Int) - 1))).f1)) else (if ((rd_T40 bt368.1 (wrap64 ((bt368.1.length : Int) - 1))).f1) ≥ (bt360.1.length : Int) then (dialtonelaw24_RouteHolds.j0 k bt360.1 bt360.2.1 bt368.1 bt368.2.1 true ((rd_T40 bt368.1 (wrap64 ((bt368.1.length : Int) - 1))).f0) ((rd_T40 bt368.1 (wrap64 ((bt368.1.length : Int) - 1))).f1)) else (if ((rd_T40 bt368.1 (wrap64 ((bt368.1.length : Int) - 1))).f1) < (wrap64 ((wrap64 ((bt360.1.length : Int) - 1)) - bt360.2.2)) then (dialtonelaw24_RouteHolds.j0 k bt360.1 bt360.2.1 bt368.1 bt368.2.1 true ((rd_T40 bt368.1 (wrap64 ((bt368.1.length : Int) - 1))).f0) ((rd_T40 bt368.1 (wrap64 ((bt368.1.length : Int) - 1))).f1)) else (if ((rd_T40 bt368.1 (wrap64 ((bt368.1.length : Int) - 1))).f0) < 0 then (dialtonelaw24_RouteHolds.j0 k bt360.1 bt360.2.1 bt368.1 bt368.2.1 true ((rd_T40 bt368.1 (wrap64 ((bt368.1.length : Int) - 1))).f0) ((rd_T40 bt368.1 (wrap64 ((bt368.1.length : Int) - 1))).f1)) else (dialtonelaw24_RouteHolds.j0 k bt360.1 bt360.2.1 bt368.1 bt368.2.1 (decide (((rd_T40 bt368.1 (wrap64 ((bt368.1.length : Int) - 1))).f0) > 7)) ((rd_T40 bt368.1 (wrap64 ((bt368.1.length : Int) - 1))).f0) ((rd_T40 bt368.1 (wrap64 ((bt368.1.length : Int) - 1))).f1)))))) else (none)) else (none))) else (some (bt368.2.2 == 240)))))) else (none))) = some r := h
  clear h
  replace H := Option.bind_eq_some_iff.mp H
  obtain ⟨t359, A50, H⟩ := H
  replace H : (if t359 = true then ((dialtoneref24_Made.f k l0 l1 a2).bind fun bt360 => ((dialtonelaw24_pick.f a3 8).bind fun t367 => ((route_Path.f k bt360.1 bt360.2.1 bt360.2.2 t367).bind fun bt368 => (if bt368.2.2 = 0 then (if (bt368.1.length : Int) = 0 then (none) else (if 0 ≤ (wrap64 ((bt368.1.length : Int) - 1)) then (if (wrap64 ((bt368.1.length : Int) - 1)) < (bt368.1.length : Int) then (if ((rd_T40 bt368.1 (wrap64 ((bt368.1.length : Int) - 1))).f1) < 0 then (dialtonelaw24_RouteHolds.j0 k bt360.1 bt360.2.1 bt368.1 bt368.2.1 true ((rd_T40 bt368.1 (wrap64 ((bt368.1.length : Int) - 1))).f0) ((rd_T40 bt368.1 (wrap64 ((bt368.1.length : Int) - 1))).f1)) else (if ((rd_T40 bt368.1 (wrap64 ((bt368.1.length : Int) - 1))).f1) ≥ (bt360.1.length : Int) then (dialtonelaw24_RouteHolds.j0 k bt360.1 bt360.2.1 bt368.1 bt368.2.1 true ((rd_T40 bt368.1 (wrap64 ((bt368.1.length : Int) - 1))).f0) ((rd_T40 bt368.1 (wrap64 ((bt368.1.length : Int) - 1))).f1)) else (if ((rd_T40 bt368.1 (wrap64 ((bt368.1.length : Int) - 1))).f1) < (wrap64 ((wrap64 ((bt360.1.length : Int) - 1)) - bt360.2.2)) then (dialtonelaw24_RouteHolds.j0 k bt360.1 bt360.2.1 bt368.1 bt368.2.1 true ((rd_T40 bt368.1 (wrap64 ((bt368.1.length : Int) - 1))).f0) ((rd_T40 bt368.1 (wrap64 ((bt368.1.length : Int) - 1))).f1)) else (if ((rd_T40 bt368.1 (wrap64 ((bt368.1.length : Int) - 1))).f0) < 0 then (dialtonelaw24_RouteHolds.j0 k bt360.1 bt360.2.1 bt368.1 bt368.2.1 true ((rd_T40 bt368.1 (wrap64 ((bt368.1.length : Int) - 1))).f0) ((rd_T40 bt368.1 (wrap64 ((bt368.1.length : Int) - 1))).f1)) else (dialtonelaw24_RouteHolds.j0 k bt360.1 bt360.2.1 bt368.1 bt368.2.1 (decide (((rd_T40 bt368.1 (wrap64 ((bt368.1.length : Int) - 1))).f0) > 7)) ((rd_T40 bt368.1 (wrap64 ((bt368.1.length : Int) - 1))).f0) ((rd_T40 bt368.1 (wrap64 ((bt368.1.length : Int) - 1))).f1)))))) else (none)) else (none))) else (some (bt368.2.2 == 240)))))) else (none)) = some r := H
  have A5 := Aside0.mk A50
  clear A50
  by_cases c6 : t359 = true
  · subst c6
    have H1 : ((dialtoneref24_Made.f k l0 l1 a2).bind fun bt360 => ((dialtonelaw24_pick.f a3 8).bind fun t367 => ((route_Path.f k bt360.1 bt360.2.1 bt360.2.2 t367).bind fun bt368 => (if bt368.2.2 = 0 then (if (bt368.1.length : Int) = 0 then (none) else (if 0 ≤ (wrap64 ((bt368.1.length : Int) - 1)) then (if (wrap64 ((bt368.1.length : Int) - 1)) < (bt368.1.length : Int) then (if ((rd_T40 bt368.1 (wrap64 ((bt368.1.length : Int) - 1))).f1) < 0 then (dialtonelaw24_RouteHolds.j0 k bt360.1 bt360.2.1 bt368.1 bt368.2.1 true ((rd_T40 bt368.1 (wrap64 ((bt368.1.length : Int) - 1))).f0) ((rd_T40 bt368.1 (wrap64 ((bt368.1.length : Int) - 1))).f1)) else (if ((rd_T40 bt368.1 (wrap64 ((bt368.1.length : Int) - 1))).f1) ≥ (bt360.1.length : Int) then (dialtonelaw24_RouteHolds.j0 k bt360.1 bt360.2.1 bt368.1 bt368.2.1 true ((rd_T40 bt368.1 (wrap64 ((bt368.1.length : Int) - 1))).f0) ((rd_T40 bt368.1 (wrap64 ((bt368.1.length : Int) - 1))).f1)) else (if ((rd_T40 bt368.1 (wrap64 ((bt368.1.length : Int) - 1))).f1) < (wrap64 ((wrap64 ((bt360.1.length : Int) - 1)) - bt360.2.2)) then (dialtonelaw24_RouteHolds.j0 k bt360.1 bt360.2.1 bt368.1 bt368.2.1 true ((rd_T40 bt368.1 (wrap64 ((bt368.1.length : Int) - 1))).f0) ((rd_T40 bt368.1 (wrap64 ((bt368.1.length : Int) - 1))).f1)) else (if ((rd_T40 bt368.1 (wrap64 ((bt368.1.length : Int) - 1))).f0) < 0 then (dialtonelaw24_RouteHolds.j0 k bt360.1 bt360.2.1 bt368.1 bt368.2.1 true ((rd_T40 bt368.1 (wrap64 ((bt368.1.length : Int) - 1))).f0) ((rd_T40 bt368.1 (wrap64 ((bt368.1.length : Int) - 1))).f1)) else (dialtonelaw24_RouteHolds.j0 k bt360.1 bt360.2.1 bt368.1 bt368.2.1 (decide (((rd_T40 bt368.1 (wrap64 ((bt368.1.length : Int) - 1))).f0) > 7)) ((rd_T40 bt368.1 (wrap64 ((bt368.1.length : Int) - 1))).f0) ((rd_T40 bt368.1 (wrap64 ((bt368.1.length : Int) - 1))).f1)))))) else (none)) else (none))) else (some (bt368.2.2 == 240)))))) = some r := by rw [if_pos rfl] at H; exact H
    clear H
    have H := H1
    clear H1
    replace H := Option.bind_eq_some_iff.mp H
    obtain ⟨⟨t360, t361, t362⟩, A70, H⟩ := H
    replace H : ((dialtonelaw24_pick.f a3 8).bind fun t367 => ((route_Path.f k t360 t361 t362 t367).bind fun bt368 => (if bt368.2.2 = 0 then (if (bt368.1.length : Int) = 0 then (none) else (if 0 ≤ (wrap64 ((bt368.1.length : Int) - 1)) then (if (wrap64 ((bt368.1.length : Int) - 1)) < (bt368.1.length : Int) then (if ((rd_T40 bt368.1 (wrap64 ((bt368.1.length : Int) - 1))).f1) < 0 then (dialtonelaw24_RouteHolds.j0 k t360 t361 bt368.1 bt368.2.1 true ((rd_T40 bt368.1 (wrap64 ((bt368.1.length : Int) - 1))).f0) ((rd_T40 bt368.1 (wrap64 ((bt368.1.length : Int) - 1))).f1)) else (if ((rd_T40 bt368.1 (wrap64 ((bt368.1.length : Int) - 1))).f1) ≥ (t360.length : Int) then (dialtonelaw24_RouteHolds.j0 k t360 t361 bt368.1 bt368.2.1 true ((rd_T40 bt368.1 (wrap64 ((bt368.1.length : Int) - 1))).f0) ((rd_T40 bt368.1 (wrap64 ((bt368.1.length : Int) - 1))).f1)) else (if ((rd_T40 bt368.1 (wrap64 ((bt368.1.length : Int) - 1))).f1) < (wrap64 ((wrap64 ((t360.length : Int) - 1)) - t362)) then (dialtonelaw24_RouteHolds.j0 k t360 t361 bt368.1 bt368.2.1 true ((rd_T40 bt368.1 (wrap64 ((bt368.1.length : Int) - 1))).f0) ((rd_T40 bt368.1 (wrap64 ((bt368.1.length : Int) - 1))).f1)) else (if ((rd_T40 bt368.1 (wrap64 ((bt368.1.length : Int) - 1))).f0) < 0 then (dialtonelaw24_RouteHolds.j0 k t360 t361 bt368.1 bt368.2.1 true ((rd_T40 bt368.1 (wrap64 ((bt368.1.length : Int) - 1))).f0) ((rd_T40 bt368.1 (wrap64 ((bt368.1.length : Int) - 1))).f1)) else (dialtonelaw24_RouteHolds.j0 k t360 t361 bt368.1 bt368.2.1 (decide (((rd_T40 bt368.1 (wrap64 ((bt368.1.length : Int) - 1))).f0) > 7)) ((rd_T40 bt368.1 (wrap64 ((bt368.1.length : Int) - 1))).f0) ((rd_T40 bt368.1 (wrap64 ((bt368.1.length : Int) - 1))).f1)))))) else (none)) else (none))) else (some (bt368.2.2 == 240))))) = some r := H
    have A7 := Aside0.mk A70
    clear A70
    replace H := Option.bind_eq_some_iff.mp H
    obtain ⟨t367, A80, H⟩ := H
    replace H : ((route_Path.f k t360 t361 t362 t367).bind fun bt368 => (if bt368.2.2 = 0 then (if (bt368.1.length : Int) = 0 then (none) else (if 0 ≤ (wrap64 ((bt368.1.length : Int) - 1)) then (if (wrap64 ((bt368.1.length : Int) - 1)) < (bt368.1.length : Int) then (if ((rd_T40 bt368.1 (wrap64 ((bt368.1.length : Int) - 1))).f1) < 0 then (dialtonelaw24_RouteHolds.j0 k t360 t361 bt368.1 bt368.2.1 true ((rd_T40 bt368.1 (wrap64 ((bt368.1.length : Int) - 1))).f0) ((rd_T40 bt368.1 (wrap64 ((bt368.1.length : Int) - 1))).f1)) else (if ((rd_T40 bt368.1 (wrap64 ((bt368.1.length : Int) - 1))).f1) ≥ (t360.length : Int) then (dialtonelaw24_RouteHolds.j0 k t360 t361 bt368.1 bt368.2.1 true ((rd_T40 bt368.1 (wrap64 ((bt368.1.length : Int) - 1))).f0) ((rd_T40 bt368.1 (wrap64 ((bt368.1.length : Int) - 1))).f1)) else (if ((rd_T40 bt368.1 (wrap64 ((bt368.1.length : Int) - 1))).f1) < (wrap64 ((wrap64 ((t360.length : Int) - 1)) - t362)) then (dialtonelaw24_RouteHolds.j0 k t360 t361 bt368.1 bt368.2.1 true ((rd_T40 bt368.1 (wrap64 ((bt368.1.length : Int) - 1))).f0) ((rd_T40 bt368.1 (wrap64 ((bt368.1.length : Int) - 1))).f1)) else (if ((rd_T40 bt368.1 (wrap64 ((bt368.1.length : Int) - 1))).f0) < 0 then (dialtonelaw24_RouteHolds.j0 k t360 t361 bt368.1 bt368.2.1 true ((rd_T40 bt368.1 (wrap64 ((bt368.1.length : Int) - 1))).f0) ((rd_T40 bt368.1 (wrap64 ((bt368.1.length : Int) - 1))).f1)) else (dialtonelaw24_RouteHolds.j0 k t360 t361 bt368.1 bt368.2.1 (decide (((rd_T40 bt368.1 (wrap64 ((bt368.1.length : Int) - 1))).f0) > 7)) ((rd_T40 bt368.1 (wrap64 ((bt368.1.length : Int) - 1))).f0) ((rd_T40 bt368.1 (wrap64 ((bt368.1.length : Int) - 1))).f1)))))) else (none)) else (none))) else (some (bt368.2.2 == 240)))) = some r := H
    have A8 := Aside0.mk A80
    clear A80
    replace H := Option.bind_eq_some_iff.mp H
    obtain ⟨⟨t368, t369, t370⟩, A90, H⟩ := H
    replace H : (if t370 = 0 then (if (t368.length : Int) = 0 then (none) else (if 0 ≤ (wrap64 ((t368.length : Int) - 1)) then (if (wrap64 ((t368.length : Int) - 1)) < (t368.length : Int) then (if ((rd_T40 t368 (wrap64 ((t368.length : Int) - 1))).f1) < 0 then (dialtonelaw24_RouteHolds.j0 k t360 t361 t368 t369 true ((rd_T40 t368 (wrap64 ((t368.length : Int) - 1))).f0) ((rd_T40 t368 (wrap64 ((t368.length : Int) - 1))).f1)) else (if ((rd_T40 t368 (wrap64 ((t368.length : Int) - 1))).f1) ≥ (t360.length : Int) then (dialtonelaw24_RouteHolds.j0 k t360 t361 t368 t369 true ((rd_T40 t368 (wrap64 ((t368.length : Int) - 1))).f0) ((rd_T40 t368 (wrap64 ((t368.length : Int) - 1))).f1)) else (if ((rd_T40 t368 (wrap64 ((t368.length : Int) - 1))).f1) < (wrap64 ((wrap64 ((t360.length : Int) - 1)) - t362)) then (dialtonelaw24_RouteHolds.j0 k t360 t361 t368 t369 true ((rd_T40 t368 (wrap64 ((t368.length : Int) - 1))).f0) ((rd_T40 t368 (wrap64 ((t368.length : Int) - 1))).f1)) else (if ((rd_T40 t368 (wrap64 ((t368.length : Int) - 1))).f0) < 0 then (dialtonelaw24_RouteHolds.j0 k t360 t361 t368 t369 true ((rd_T40 t368 (wrap64 ((t368.length : Int) - 1))).f0) ((rd_T40 t368 (wrap64 ((t368.length : Int) - 1))).f1)) else (dialtonelaw24_RouteHolds.j0 k t360 t361 t368 t369 (decide (((rd_T40 t368 (wrap64 ((t368.length : Int) - 1))).f0) > 7)) ((rd_T40 t368 (wrap64 ((t368.length : Int) - 1))).f0) ((rd_T40 t368 (wrap64 ((t368.length : Int) - 1))).f1)))))) else (none)) else (none))) else (some (t370 == 240))) = some r := H
    have A9 := Aside0.mk A90
    clear A90
    by_cases c10 : t370 = 0
    · rw [if_pos c10] at H
      have c10b0 : (t370 == 0) = true := beq_iff_eq.mpr c10
      have c10b1 : (t370 != 0) = false := bne_eq_false_iff_eq.mpr c10
      clear c10
      by_cases c11 : (t368.length : Int) = 0
      · rw [if_pos c11] at H
        exact absurd H (by simp)
      · rw [if_neg c11] at H
        have c11b0 : ((t368.length : Int) == 0) = false := beq_eq_false_iff_ne.mpr c11
        have c11b1 : ((t368.length : Int) != 0) = true := bne_iff_ne.mpr c11
        have c11b2 : ¬ (t368 = []) := fun h_ => c11 (by rw [h_]; rfl)
        obtain ⟨ji12, hji12⟩ : ∃ j_ : Int, (wrap64 ((t368.length : Int) - 1)) = j_ := ⟨_, rfl⟩
        replace H : (if 0 ≤ (ji12) then (if (ji12) < (t368.length : Int) then (if ((rd_T40 t368 (ji12)).f1) < 0 then (dialtonelaw24_RouteHolds.j0 k t360 t361 t368 t369 true ((rd_T40 t368 (ji12)).f0) ((rd_T40 t368 (ji12)).f1)) else (if ((rd_T40 t368 (ji12)).f1) ≥ (t360.length : Int) then (dialtonelaw24_RouteHolds.j0 k t360 t361 t368 t369 true ((rd_T40 t368 (ji12)).f0) ((rd_T40 t368 (ji12)).f1)) else (if ((rd_T40 t368 (ji12)).f1) < (wrap64 ((wrap64 ((t360.length : Int) - 1)) - t362)) then (dialtonelaw24_RouteHolds.j0 k t360 t361 t368 t369 true ((rd_T40 t368 (ji12)).f0) ((rd_T40 t368 (ji12)).f1)) else (if ((rd_T40 t368 (ji12)).f0) < 0 then (dialtonelaw24_RouteHolds.j0 k t360 t361 t368 t369 true ((rd_T40 t368 (ji12)).f0) ((rd_T40 t368 (ji12)).f1)) else (dialtonelaw24_RouteHolds.j0 k t360 t361 t368 t369 (decide (((rd_T40 t368 (ji12)).f0) > 7)) ((rd_T40 t368 (ji12)).f0) ((rd_T40 t368 (ji12)).f1)))))) else (none)) else (none)) = some r := by first | (rw [hji12] at H; exact H) | (simp only [hji12] at H ⊢; exact H)
        (try rw [hji12] at A5)
        (try rw [hji12] at A7)
        (try rw [hji12] at A8)
        (try rw [hji12] at A9)
        have hji12w : (IntKind.i64.wrap ((t368.length : Int) - 1)) = ji12 := (i64_w _).trans hji12
        by_cases c13 : 0 ≤ (ji12)
        · rw [if_pos c13] at H
          have c13b0 : decide (0 ≤ (ji12)) = true := decide_eq_true c13
          clear c13
          by_cases c14 : (ji12) < (t368.length : Int)
          · rw [if_pos c14] at H
            have c14b0 : decide ((ji12) < (t368.length : Int)) = true := decide_eq_true c14
            clear c14
            have HC15 := Aside0.mk H
            clear H
            go_enter Try.func5, Try.ntmps5
            go_upto_region 11 with (first | (go_at_call 11; (with_reducible refine (dialtonelaw24_sane.calls k  true _ A5.out).mono ?_); rintro e w16 ⟨rfl, hb⟩; have n0_ := Aside0.mk (below_step (by repeat (first | (with_reducible first | exact HB.out | apply below_alloc | apply pw_below_drewN | apply below_drew1) | exact HB.out)) hb); clear HB; have HB := n0_; clear n0_; (try clear hb); (try clear hb2); (try clear hk); (try clear hi)) | (go_at_call 12; (with_reducible refine (dialtoneref24_Made.calls k _ _ l0 _ _ l1 a2 t360 t361 t362 _ ?side1 ?side2 ?side3 ?side4 A7.out).mono ?_); (case side1 => repeat (first | exact (Kd.C_below HR0.out HB.out) | (with_reducible refine Kd.C_alloc ?_ _) | (with_reducible refine Kd.C_drewN ?_ _) | (with_reducible refine Kd.C_drew ?_))); (case side2 => exact HC0.out); (case side3 => repeat (first | exact (Kd.C_below HR1.out HB.out) | (with_reducible refine Kd.C_alloc ?_ _) | (with_reducible refine Kd.C_drewN ?_ _) | (with_reducible refine Kd.C_drew ?_))); (case side4 => exact HC1.out); rintro e w17 ⟨v363, v365, rfl, ho0, ho1, hb⟩; have n0_ := Aside0.mk (Kd.R_lower ho0 (below_size (by repeat (first | (with_reducible first | exact HB.out | apply below_alloc | apply pw_below_drewN | apply below_drew1) | exact HB.out)))); have n1_ := Aside0.mk (Kd.R_lower ho1 (below_size (by repeat (first | (with_reducible first | exact HB.out | apply below_alloc | apply pw_below_drewN | apply below_drew1) | exact HB.out)))); have n2_ := Aside0.mk (below_step (by repeat (first | (with_reducible first | exact HB.out | apply below_alloc | apply pw_below_drewN | apply below_drew1) | exact HB.out)) hb); clear HB; have HO364 := n0_; have HO366 := n1_; have HB := n2_; clear n0_ n1_ n2_; (try clear hb); (try clear hb2); (try clear hk); (try clear hi); (try clear ho0); (try clear ho1)) | (go_at_call 13; (with_reducible refine (dialtonelaw24_pick.calls a3 8 t367 _ A8.out).mono ?_); rintro e w' ⟨rfl, ⟨nd, rfl⟩⟩; (try first | exact ⟨rfl, _, World.drewN_drewN _ _ _⟩ | exact ⟨rfl, _, Eq.trans (World.drewN_drewN _ _ _) (congrArg (World.drewN _) (Nat.add_assoc _ _ _))⟩); obtain ⟨Ao18, co18, eo18⟩ := Kd.R_slice HO364.out; subst eo18; obtain ⟨Ao19, co19, eo19⟩ := Kd.R_slice HO366.out; subst eo19) | (go_at_call 16; (with_reducible refine (route_Path.calls k _ _ t360 _ _ t361 t362 t367 t368 t369 t370 _ ?side1 ?side2 ?side3 ?side4 A9.out).mono ?_); (case side1 => repeat (first | exact (Kd.R_reads' HO364.out).2.2 | (with_reducible refine Kd.C_alloc ?_ _) | (with_reducible refine Kd.C_drewN ?_ _) | (with_reducible refine Kd.C_drew ?_))); (case side2 => exact (Kd.R_reads' HO364.out).2.1); (case side3 => repeat (first | exact (Kd.R_reads' HO366.out).2.2 | (with_reducible refine Kd.C_alloc ?_ _) | (with_reducible refine Kd.C_drewN ?_ _) | (with_reducible refine Kd.C_drew ?_))); (case side4 => exact (Kd.R_reads' HO366.out).2.1); rintro e w20 ⟨v371, rfl, ho0, hb⟩; have n0_ := Aside0.mk (Kd.R_below (by (with_reducible repeat (first | apply Kd.R_alloc | apply Kd.R_drewN | apply Kd.R_drew)); exact HO364.out) hb); have n1_ := Aside0.mk (Kd.R_below (by (with_reducible repeat (first | apply Kd.R_alloc | apply Kd.R_drewN | apply Kd.R_drew)); exact HO366.out) hb); have n2_ := Aside0.mk (Kd.R_lower ho0 (below_size (by repeat (first | (with_reducible first | exact HB.out | apply below_alloc | apply pw_below_drewN | apply below_drew1) | exact HB.out)))); have n3_ := Aside0.mk (below_step (by repeat (first | (with_reducible first | exact HB.out | apply below_alloc | apply pw_below_drewN | apply below_drew1) | exact HB.out)) hb); clear HO364; clear HO366; clear HB; have HO364 := n0_; have HO366 := n1_; have HO372 := n2_; have HB := n3_; clear n0_ n1_ n2_ n3_; (try clear hb); (try clear hb2); (try clear hk); (try clear hi); (try clear ho0); obtain ⟨Ao21, co21, eo21⟩ := Kd.R_slice HO372.out; subst eo21; have p373 : 0 ≤ ((ji12) : Int) := of_decide_eq_true (by first | (with_reducible assumption) | assumption); have q373 : (ji12) < (t368.length : Int) := of_decide_eq_true (by first | (with_reducible assumption) | assumption); obtain ⟨ad373, e373, hx373_0, hx373_1⟩ := at_T40 (Kd.R_reads' HO372.out).2.2 (ji12) p373 q373; cases e373; replace p373 := eq_true p373; replace q373 := eq_true q373) | ((with_reducible refine gate_dst (N := 16) rfl ?_); (try (refine gate_guard (by rfl) ?_; dsimp only)); refine box_event ?hg (N := 16) ?hd (cs := #[.int .i64 0, .int .i64 0]) (t := 40) ?hr ?_; (case hd => rfl); (case hg => rfl); (case hr => first | (go_simp; done) | (go_simp; rfl)); intro gb374 hg w22 hbox hb; have n0_ := Aside0.mk (Kd.R_below (by (with_reducible repeat (first | apply Kd.R_alloc | apply Kd.R_drewN | apply Kd.R_drew)); exact HO364.out) hb); have n1_ := Aside0.mk (Kd.R_below (by (with_reducible repeat (first | apply Kd.R_alloc | apply Kd.R_drewN | apply Kd.R_drew)); exact HO366.out) hb); have n2_ := Aside0.mk (Kd.R_below (Kd.R_elderB (by (with_reducible repeat (first | apply Kd.R_alloc | apply Kd.R_drewN | apply Kd.R_drew)); exact HO372.out) gb374 (Nat.le_of_eq hg.symm)) hb); have n3_ := Aside0.mk (below_step (by repeat (first | (with_reducible first | exact HB.out | apply below_alloc | apply pw_below_drewN | apply below_drew1) | exact HB.out)) hb); have n4_ := Aside0.mk (hbox); have n5_ := Aside0.mk ((by rw [hg]; exact (below_size (by repeat (first | (with_reducible first | exact HB.out | apply below_alloc | apply pw_below_drewN | apply below_drew1) | exact HB.out))) : w.heap.size ≤ gb374)); have n6_ := Aside0.mk ((by rw [hg]; exact (below_size (by repeat (first | (with_reducible first | exact HB.out | apply below_alloc | apply pw_below_drewN | apply below_drew1) | exact HB.out))) : w.heap.size ≤ gb374)); clear HO364; clear HO366; clear HO372; clear HB; have HO364 := n0_; have HO366 := n1_; have HO372 := n2_; have HB := n3_; have BK374 := n4_; have GW374 := n5_; have GE374 := n6_; clear n0_ n1_ n2_ n3_ n4_ n5_ n6_; clear hb hbox hg; have hcz23_0 : w22.cell? ⟨gb374, 0, none⟩ = some (.int .i64 0) := (blk_cell BK374.out 0).trans rfl; have hcz23_1 : w22.cell? ⟨gb374, 1, none⟩ = some (.int .i64 0) := (blk_cell BK374.out 1).trans rfl; have hfz23_0 := blk_frozen BK374.out 0; have hfz23_1 := blk_frozen BK374.out 1))
            repeat (go_quiet (first | (go_at_call 11; (with_reducible refine (dialtonelaw24_sane.calls k  true _ A5.out).mono ?_); rintro e w16 ⟨rfl, hb⟩; have n0_ := Aside0.mk (below_step (by repeat (first | (with_reducible first | exact HB.out | apply below_alloc | apply pw_below_drewN | apply below_drew1) | exact HB.out)) hb); clear HB; have HB := n0_; clear n0_; (try clear hb); (try clear hb2); (try clear hk); (try clear hi)) | (go_at_call 12; (with_reducible refine (dialtoneref24_Made.calls k _ _ l0 _ _ l1 a2 t360 t361 t362 _ ?side1 ?side2 ?side3 ?side4 A7.out).mono ?_); (case side1 => repeat (first | exact (Kd.C_below HR0.out HB.out) | (with_reducible refine Kd.C_alloc ?_ _) | (with_reducible refine Kd.C_drewN ?_ _) | (with_reducible refine Kd.C_drew ?_))); (case side2 => exact HC0.out); (case side3 => repeat (first | exact (Kd.C_below HR1.out HB.out) | (with_reducible refine Kd.C_alloc ?_ _) | (with_reducible refine Kd.C_drewN ?_ _) | (with_reducible refine Kd.C_drew ?_))); (case side4 => exact HC1.out); rintro e w17 ⟨v363, v365, rfl, ho0, ho1, hb⟩; have n0_ := Aside0.mk (Kd.R_lower ho0 (below_size (by repeat (first | (with_reducible first | exact HB.out | apply below_alloc | apply pw_below_drewN | apply below_drew1) | exact HB.out)))); have n1_ := Aside0.mk (Kd.R_lower ho1 (below_size (by repeat (first | (with_reducible first | exact HB.out | apply below_alloc | apply pw_below_drewN | apply below_drew1) | exact HB.out)))); have n2_ := Aside0.mk (below_step (by repeat (first | (with_reducible first | exact HB.out | apply below_alloc | apply pw_below_drewN | apply below_drew1) | exact HB.out)) hb); clear HB; have HO364 := n0_; have HO366 := n1_; have HB := n2_; clear n0_ n1_ n2_; (try clear hb); (try clear hb2); (try clear hk); (try clear hi); (try clear ho0); (try clear ho1)) | (go_at_call 13; (with_reducible refine (dialtonelaw24_pick.calls a3 8 t367 _ A8.out).mono ?_); rintro e w' ⟨rfl, ⟨nd, rfl⟩⟩; (try first | exact ⟨rfl, _, World.drewN_drewN _ _ _⟩ | exact ⟨rfl, _, Eq.trans (World.drewN_drewN _ _ _) (congrArg (World.drewN _) (Nat.add_assoc _ _ _))⟩); obtain ⟨Ao18, co18, eo18⟩ := Kd.R_slice HO364.out; subst eo18; obtain ⟨Ao19, co19, eo19⟩ := Kd.R_slice HO366.out; subst eo19) | (go_at_call 16; (with_reducible refine (route_Path.calls k _ _ t360 _ _ t361 t362 t367 t368 t369 t370 _ ?side1 ?side2 ?side3 ?side4 A9.out).mono ?_); (case side1 => repeat (first | exact (Kd.R_reads' HO364.out).2.2 | (with_reducible refine Kd.C_alloc ?_ _) | (with_reducible refine Kd.C_drewN ?_ _) | (with_reducible refine Kd.C_drew ?_))); (case side2 => exact (Kd.R_reads' HO364.out).2.1); (case side3 => repeat (first | exact (Kd.R_reads' HO366.out).2.2 | (with_reducible refine Kd.C_alloc ?_ _) | (with_reducible refine Kd.C_drewN ?_ _) | (with_reducible refine Kd.C_drew ?_))); (case side4 => exact (Kd.R_reads' HO366.out).2.1); rintro e w20 ⟨v371, rfl, ho0, hb⟩; have n0_ := Aside0.mk (Kd.R_below (by (with_reducible repeat (first | apply Kd.R_alloc | apply Kd.R_drewN | apply Kd.R_drew)); exact HO364.out) hb); have n1_ := Aside0.mk (Kd.R_below (by (with_reducible repeat (first | apply Kd.R_alloc | apply Kd.R_drewN | apply Kd.R_drew)); exact HO366.out) hb); have n2_ := Aside0.mk (Kd.R_lower ho0 (below_size (by repeat (first | (with_reducible first | exact HB.out | apply below_alloc | apply pw_below_drewN | apply below_drew1) | exact HB.out)))); have n3_ := Aside0.mk (below_step (by repeat (first | (with_reducible first | exact HB.out | apply below_alloc | apply pw_below_drewN | apply below_drew1) | exact HB.out)) hb); clear HO364; clear HO366; clear HB; have HO364 := n0_; have HO366 := n1_; have HO372 := n2_; have HB := n3_; clear n0_ n1_ n2_ n3_; (try clear hb); (try clear hb2); (try clear hk); (try clear hi); (try clear ho0); obtain ⟨Ao21, co21, eo21⟩ := Kd.R_slice HO372.out; subst eo21; have p373 : 0 ≤ ((ji12) : Int) := of_decide_eq_true (by first | (with_reducible assumption) | assumption); have q373 : (ji12) < (t368.length : Int) := of_decide_eq_true (by first | (with_reducible assumption) | assumption); obtain ⟨ad373, e373, hx373_0, hx373_1⟩ := at_T40 (Kd.R_reads' HO372.out).2.2 (ji12) p373 q373; cases e373; replace p373 := eq_true p373; replace q373 := eq_true q373) | ((with_reducible refine gate_dst (N := 16) rfl ?_); (try (refine gate_guard (by rfl) ?_; dsimp only)); refine box_event ?hg (N := 16) ?hd (cs := #[.int .i64 0, .int .i64 0]) (t := 40) ?hr ?_; (case hd => rfl); (case hg => rfl); (case hr => first | (go_simp; done) | (go_simp; rfl)); intro gb374 hg w22 hbox hb; have n0_ := Aside0.mk (Kd.R_below (by (with_reducible repeat (first | apply Kd.R_alloc | apply Kd.R_drewN | apply Kd.R_drew)); exact HO364.out) hb); have n1_ := Aside0.mk (Kd.R_below (by (with_reducible repeat (first | apply Kd.R_alloc | apply Kd.R_drewN | apply Kd.R_drew)); exact HO366.out) hb); have n2_ := Aside0.mk (Kd.R_below (Kd.R_elderB (by (with_reducible repeat (first | apply Kd.R_alloc | apply Kd.R_drewN | apply Kd.R_drew)); exact HO372.out) gb374 (Nat.le_of_eq hg.symm)) hb); have n3_ := Aside0.mk (below_step (by repeat (first | (with_reducible first | exact HB.out | apply below_alloc | apply pw_below_drewN | apply below_drew1) | exact HB.out)) hb); have n4_ := Aside0.mk (hbox); have n5_ := Aside0.mk ((by rw [hg]; exact (below_size (by repeat (first | (with_reducible first | exact HB.out | apply below_alloc | apply pw_below_drewN | apply below_drew1) | exact HB.out))) : w.heap.size ≤ gb374)); have n6_ := Aside0.mk ((by rw [hg]; exact (below_size (by repeat (first | (with_reducible first | exact HB.out | apply below_alloc | apply pw_below_drewN | apply below_drew1) | exact HB.out))) : w.heap.size ≤ gb374)); clear HO364; clear HO366; clear HO372; clear HB; have HO364 := n0_; have HO366 := n1_; have HO372 := n2_; have HB := n3_; have BK374 := n4_; have GW374 := n5_; have GE374 := n6_; clear n0_ n1_ n2_ n3_ n4_ n5_ n6_; clear hb hbox hg; have hcz23_0 : w22.cell? ⟨gb374, 0, none⟩ = some (.int .i64 0) := (blk_cell BK374.out 0).trans rfl; have hcz23_1 : w22.cell? ⟨gb374, 1, none⟩ = some (.int .i64 0) := (blk_cell BK374.out 1).trans rfl; have hfz23_0 := blk_frozen BK374.out 0; have hfz23_1 := blk_frozen BK374.out 1)); go_upto_region 11 with (first | (go_at_call 11; (with_reducible refine (dialtonelaw24_sane.calls k  true _ A5.out).mono ?_); rintro e w16 ⟨rfl, hb⟩; have n0_ := Aside0.mk (below_step (by repeat (first | (with_reducible first | exact HB.out | apply below_alloc | apply pw_below_drewN | apply below_drew1) | exact HB.out)) hb); clear HB; have HB := n0_; clear n0_; (try clear hb); (try clear hb2); (try clear hk); (try clear hi)) | (go_at_call 12; (with_reducible refine (dialtoneref24_Made.calls k _ _ l0 _ _ l1 a2 t360 t361 t362 _ ?side1 ?side2 ?side3 ?side4 A7.out).mono ?_); (case side1 => repeat (first | exact (Kd.C_below HR0.out HB.out) | (with_reducible refine Kd.C_alloc ?_ _) | (with_reducible refine Kd.C_drewN ?_ _) | (with_reducible refine Kd.C_drew ?_))); (case side2 => exact HC0.out); (case side3 => repeat (first | exact (Kd.C_below HR1.out HB.out) | (with_reducible refine Kd.C_alloc ?_ _) | (with_reducible refine Kd.C_drewN ?_ _) | (with_reducible refine Kd.C_drew ?_))); (case side4 => exact HC1.out); rintro e w17 ⟨v363, v365, rfl, ho0, ho1, hb⟩; have n0_ := Aside0.mk (Kd.R_lower ho0 (below_size (by repeat (first | (with_reducible first | exact HB.out | apply below_alloc | apply pw_below_drewN | apply below_drew1) | exact HB.out)))); have n1_ := Aside0.mk (Kd.R_lower ho1 (below_size (by repeat (first | (with_reducible first | exact HB.out | apply below_alloc | apply pw_below_drewN | apply below_drew1) | exact HB.out)))); have n2_ := Aside0.mk (below_step (by repeat (first | (with_reducible first | exact HB.out | apply below_alloc | apply pw_below_drewN | apply below_drew1) | exact HB.out)) hb); clear HB; have HO364 := n0_; have HO366 := n1_; have HB := n2_; clear n0_ n1_ n2_; (try clear hb); (try clear hb2); (try clear hk); (try clear hi); (try clear ho0); (try clear ho1)) | (go_at_call 13; (with_reducible refine (dialtonelaw24_pick.calls a3 8 t367 _ A8.out).mono ?_); rintro e w' ⟨rfl, ⟨nd, rfl⟩⟩; (try first | exact ⟨rfl, _, World.drewN_drewN _ _ _⟩ | exact ⟨rfl, _, Eq.trans (World.drewN_drewN _ _ _) (congrArg (World.drewN _) (Nat.add_assoc _ _ _))⟩); obtain ⟨Ao18, co18, eo18⟩ := Kd.R_slice HO364.out; subst eo18; obtain ⟨Ao19, co19, eo19⟩ := Kd.R_slice HO366.out; subst eo19) | (go_at_call 16; (with_reducible refine (route_Path.calls k _ _ t360 _ _ t361 t362 t367 t368 t369 t370 _ ?side1 ?side2 ?side3 ?side4 A9.out).mono ?_); (case side1 => repeat (first | exact (Kd.R_reads' HO364.out).2.2 | (with_reducible refine Kd.C_alloc ?_ _) | (with_reducible refine Kd.C_drewN ?_ _) | (with_reducible refine Kd.C_drew ?_))); (case side2 => exact (Kd.R_reads' HO364.out).2.1); (case side3 => repeat (first | exact (Kd.R_reads' HO366.out).2.2 | (with_reducible refine Kd.C_alloc ?_ _) | (with_reducible refine Kd.C_drewN ?_ _) | (with_reducible refine Kd.C_drew ?_))); (case side4 => exact (Kd.R_reads' HO366.out).2.1); rintro e w20 ⟨v371, rfl, ho0, hb⟩; have n0_ := Aside0.mk (Kd.R_below (by (with_reducible repeat (first | apply Kd.R_alloc | apply Kd.R_drewN | apply Kd.R_drew)); exact HO364.out) hb); have n1_ := Aside0.mk (Kd.R_below (by (with_reducible repeat (first | apply Kd.R_alloc | apply Kd.R_drewN | apply Kd.R_drew)); exact HO366.out) hb); have n2_ := Aside0.mk (Kd.R_lower ho0 (below_size (by repeat (first | (with_reducible first | exact HB.out | apply below_alloc | apply pw_below_drewN | apply below_drew1) | exact HB.out)))); have n3_ := Aside0.mk (below_step (by repeat (first | (with_reducible first | exact HB.out | apply below_alloc | apply pw_below_drewN | apply below_drew1) | exact HB.out)) hb); clear HO364; clear HO366; clear HB; have HO364 := n0_; have HO366 := n1_; have HO372 := n2_; have HB := n3_; clear n0_ n1_ n2_ n3_; (try clear hb); (try clear hb2); (try clear hk); (try clear hi); (try clear ho0); obtain ⟨Ao21, co21, eo21⟩ := Kd.R_slice HO372.out; subst eo21; have p373 : 0 ≤ ((ji12) : Int) := of_decide_eq_true (by first | (with_reducible assumption) | assumption); have q373 : (ji12) < (t368.length : Int) := of_decide_eq_true (by first | (with_reducible assumption) | assumption); obtain ⟨ad373, e373, hx373_0, hx373_1⟩ := at_T40 (Kd.R_reads' HO372.out).2.2 (ji12) p373 q373; cases e373; replace p373 := eq_true p373; replace q373 := eq_true q373) | ((with_reducible refine gate_dst (N := 16) rfl ?_); (try (refine gate_guard (by rfl) ?_; dsimp only)); refine box_event ?hg (N := 16) ?hd (cs := #[.int .i64 0, .int .i64 0]) (t := 40) ?hr ?_; (case hd => rfl); (case hg => rfl); (case hr => first | (go_simp; done) | (go_simp; rfl)); intro gb374 hg w22 hbox hb; have n0_ := Aside0.mk (Kd.R_below (by (with_reducible repeat (first | apply Kd.R_alloc | apply Kd.R_drewN | apply Kd.R_drew)); exact HO364.out) hb); have n1_ := Aside0.mk (Kd.R_below (by (with_reducible repeat (first | apply Kd.R_alloc | apply Kd.R_drewN | apply Kd.R_drew)); exact HO366.out) hb); have n2_ := Aside0.mk (Kd.R_below (Kd.R_elderB (by (with_reducible repeat (first | apply Kd.R_alloc | apply Kd.R_drewN | apply Kd.R_drew)); exact HO372.out) gb374 (Nat.le_of_eq hg.symm)) hb); have n3_ := Aside0.mk (below_step (by repeat (first | (with_reducible first | exact HB.out | apply below_alloc | apply pw_below_drewN | apply below_drew1) | exact HB.out)) hb); have n4_ := Aside0.mk (hbox); have n5_ := Aside0.mk ((by rw [hg]; exact (below_size (by repeat (first | (with_reducible first | exact HB.out | apply below_alloc | apply pw_below_drewN | apply below_drew1) | exact HB.out))) : w.heap.size ≤ gb374)); have n6_ := Aside0.mk ((by rw [hg]; exact (below_size (by repeat (first | (with_reducible first | exact HB.out | apply below_alloc | apply pw_below_drewN | apply below_drew1) | exact HB.out))) : w.heap.size ≤ gb374)); clear HO364; clear HO366; clear HO372; clear HB; have HO364 := n0_; have HO366 := n1_; have HO372 := n2_; have HB := n3_; have BK374 := n4_; have GW374 := n5_; have GE374 := n6_; clear n0_ n1_ n2_ n3_ n4_ n5_ n6_; clear hb hbox hg; have hcz23_0 : w22.cell? ⟨gb374, 0, none⟩ = some (.int .i64 0) := (blk_cell BK374.out 0).trans rfl; have hcz23_1 : w22.cell? ⟨gb374, 1, none⟩ = some (.int .i64 0) := (blk_cell BK374.out 1).trans rfl; have hfz23_0 := blk_frozen BK374.out 0; have hfz23_1 := blk_frozen BK374.out 1)))
            (try simp only [Act.put, List.setIfInBounds_toArray, List.set_cons_zero, List.set_cons_succ])
            go_cut [82] (fun v82 wc => ∃ (kq : Nat) (x82_14 : Bool), v82 = .bool x82_14 ∧ Aside0 (dialtonelaw24_RouteHolds.j0 kq t360 t361 t368 t369 x82_14 ((rd_T40 t368 (ji12)).f0) ((rd_T40 t368 (ji12)).f1) = some r) ∧ Aside0 (kq ≤ k) ∧ Aside0 (Kd.R (Kd.int .i64) 3 wc w.heap.size (fun k_ => some k_ ≠ ((.slice Ao19 t361.length co19) : Value).ownBlock) (.slice Ao18 t360.length co18) t360) ∧ Aside0 (Kd.R (Kd.int .i64) 3 wc w.heap.size (fun k_ => some k_ ≠ ((.slice Ao18 t360.length co18) : Value).ownBlock) (.slice Ao19 t361.length co19) t361) ∧ Aside0 (Kd.R k40 40 wc w.heap.size (fun k_ => k_ ≠ gb374) (.slice (some ad373) t368.length co21) t368) ∧ Aside0 (wc.heap[gb374]? = some (.cells #[.int .i64 ((rd_T40 t368 (ji12)).f0), .int .i64 ((rd_T40 t368 (ji12)).f1)] 40 (0, 0))) ∧ Aside0 (Below w.heap.size w wc))
            case first =>
              have H := HC15.out
              clear HC15
              by_cases c24 : ((rd_T40 t368 (ji12)).f1) < 0
              · rw [if_pos c24] at H
                have c24b0 : decide (((rd_T40 t368 (ji12)).f1) < 0) = true := decide_eq_true c24
                clear c24
                (first | rw [c24b0] | (simp only [i64_w, i32_w]; rw [c24b0]) | rw [c24b1] | skip)
                have H' := Aside0.mk H
                clear H
                have hcz25_0 : w22.cell? ⟨gb374, 0, none⟩ = some (.int .i64 0) := (blk_cell BK374.out 0).trans rfl
                have hcz25_1 : w22.cell? ⟨gb374, 1, none⟩ = some (.int .i64 0) := (blk_cell BK374.out 1).trans rfl
                have hfz25_0 := blk_frozen BK374.out 0
                have hfz25_1 := blk_frozen BK374.out 1
                go_wp2
                repeat (go_quiet (fail); try go_wp2)
                go_meet
                case rel => exact ⟨_, (true), (by first | rfl | (simp; done) | (simp [*]; done)), H', ⟨by first | omega | exact Nat.le_refl _⟩, ⟨by (with_reducible repeat (first | apply Kd.R_alloc | apply Kd.R_drewN | apply Kd.R_drew)); exact Kd.R_mono (Kd.R_far (p := ⟨gb374, 1, none⟩) (Kd.R_far (p := ⟨gb374, 0, none⟩) (Kd.R_types HO364.out BK374.out (by decide)) (fun _ hk => hk.2) (.int .i64 ((rd_T40 t368 (ji12)).f0))) (fun _ hk => hk.2) (.int .i64 ((rd_T40 t368 (ji12)).f1))) (fun _ hk => hk.1)⟩, ⟨by (with_reducible repeat (first | apply Kd.R_alloc | apply Kd.R_drewN | apply Kd.R_drew)); exact Kd.R_mono (Kd.R_far (p := ⟨gb374, 1, none⟩) (Kd.R_far (p := ⟨gb374, 0, none⟩) (Kd.R_types HO366.out BK374.out (by decide)) (fun _ hk => hk.2) (.int .i64 ((rd_T40 t368 (ji12)).f0))) (fun _ hk => hk.2) (.int .i64 ((rd_T40 t368 (ji12)).f1))) (fun _ hk => hk.1)⟩, ⟨by (with_reducible repeat (first | apply Kd.R_alloc | apply Kd.R_drewN | apply Kd.R_drew)); exact Kd.R_mono (Kd.R_far (p := ⟨gb374, 1, none⟩) (Kd.R_far (p := ⟨gb374, 0, none⟩) (Kd.R_mono HO372.out (fun k_ hk => (⟨hk, hk.2⟩ : _ ∧ k_ ≠ gb374))) (fun _ hk => hk.2) (.int .i64 ((rd_T40 t368 (ji12)).f0))) (fun _ hk => hk.2) (.int .i64 ((rd_T40 t368 (ji12)).f1))) (fun _ hk => hk.1.2)⟩, ⟨by (with_reducible repeat (first | refine blk_drewN ?_ _ | refine blk_drew ?_ | refine blk_alloc ?_ _)); refine blk_put (cs := #[.int .i64 ((rd_T40 t368 (ji12)).f0), .int .i64 0]) ?_ 1 _ rfl; (with_reducible repeat (first | refine blk_drewN ?_ _ | refine blk_drew ?_ | refine blk_alloc ?_ _)); refine blk_put (cs := #[.int .i64 0, .int .i64 0]) ?_ 0 _ rfl; (with_reducible repeat (first | refine blk_drewN ?_ _ | refine blk_drew ?_ | refine blk_alloc ?_ _)); exact BK374.out⟩, ⟨by repeat (first | (with_reducible first | exact HB.out | apply below_alloc | apply pw_below_drewN | apply below_drew1 | refine below_set ?_ GE374.out) | exact HB.out)⟩⟩
              · rw [if_neg c24] at H
                have c24b0 : decide (((rd_T40 t368 (ji12)).f1) < 0) = false := decide_eq_false c24
                clear c24
                (first | rw [c24b0] | (simp only [i64_w, i32_w]; rw [c24b0]) | rw [c24b1] | skip)
                by_cases c26 : ((rd_T40 t368 (ji12)).f1) ≥ (t360.length : Int)
                · rw [if_pos c26] at H
                  have c26b0 : decide ((t360.length : Int) ≤ ((rd_T40 t368 (ji12)).f1)) = true := decide_eq_true c26
                  clear c26
                  have H' := Aside0.mk H
                  clear H
                  have hcz27_0 : w22.cell? ⟨gb374, 0, none⟩ = some (.int .i64 0) := (blk_cell BK374.out 0).trans rfl
                  have hcz27_1 : w22.cell? ⟨gb374, 1, none⟩ = some (.int .i64 0) := (blk_cell BK374.out 1).trans rfl
                  have hfz27_0 := blk_frozen BK374.out 0
                  have hfz27_1 := blk_frozen BK374.out 1
                  go_wp2
                  repeat (go_quiet (fail); try go_wp2)
                  go_meet
                  case rel => exact ⟨_, (true), (by first | rfl | (simp; done) | (simp [*]; done)), H', ⟨by first | omega | exact Nat.le_refl _⟩, ⟨by (with_reducible repeat (first | apply Kd.R_alloc | apply Kd.R_drewN | apply Kd.R_drew)); exact Kd.R_mono (Kd.R_far (p := ⟨gb374, 1, none⟩) (Kd.R_far (p := ⟨gb374, 0, none⟩) (Kd.R_types HO364.out BK374.out (by decide)) (fun _ hk => hk.2) (.int .i64 ((rd_T40 t368 (ji12)).f0))) (fun _ hk => hk.2) (.int .i64 ((rd_T40 t368 (ji12)).f1))) (fun _ hk => hk.1)⟩, ⟨by (with_reducible repeat (first | apply Kd.R_alloc | apply Kd.R_drewN | apply Kd.R_drew)); exact Kd.R_mono (Kd.R_far (p := ⟨gb374, 1, none⟩) (Kd.R_far (p := ⟨gb374, 0, none⟩) (Kd.R_types HO366.out BK374.out (by decide)) (fun _ hk => hk.2) (.int .i64 ((rd_T40 t368 (ji12)).f0))) (fun _ hk => hk.2) (.int .i64 ((rd_T40 t368 (ji12)).f1))) (fun _ hk => hk.1)⟩, ⟨by (with_reducible repeat (first | apply Kd.R_alloc | apply Kd.R_drewN | apply Kd.R_drew)); exact Kd.R_mono (Kd.R_far (p := ⟨gb374, 1, none⟩) (Kd.R_far (p := ⟨gb374, 0, none⟩) (Kd.R_mono HO372.out (fun k_ hk => (⟨hk, hk.2⟩ : _ ∧ k_ ≠ gb374))) (fun _ hk => hk.2) (.int .i64 ((rd_T40 t368 (ji12)).f0))) (fun _ hk => hk.2) (.int .i64 ((rd_T40 t368 (ji12)).f1))) (fun _ hk => hk.1.2)⟩, ⟨by (with_reducible repeat (first | refine blk_drewN ?_ _ | refine blk_drew ?_ | refine blk_alloc ?_ _)); refine blk_put (cs := #[.int .i64 ((rd_T40 t368 (ji12)).f0), .int .i64 0]) ?_ 1 _ rfl; (with_reducible repeat (first | refine blk_drewN ?_ _ | refine blk_drew ?_ | refine blk_alloc ?_ _)); refine blk_put (cs := #[.int .i64 0, .int .i64 0]) ?_ 0 _ rfl; (with_reducible repeat (first | refine blk_drewN ?_ _ | refine blk_drew ?_ | refine blk_alloc ?_ _)); exact BK374.out⟩, ⟨by repeat (first | (with_reducible first | exact HB.out | apply below_alloc | apply pw_below_drewN | apply below_drew1 | refine below_set ?_ GE374.out) | exact HB.out)⟩⟩
                · rw [if_neg c26] at H
                  have c26b0 : decide ((t360.length : Int) ≤ ((rd_T40 t368 (ji12)).f1)) = false := decide_eq_false c26
                  clear c26
                  by_cases c28 : ((rd_T40 t368 (ji12)).f1) < (wrap64 ((wrap64 ((t360.length : Int) - 1)) - t362))
                  · rw [if_pos c28] at H
                    have c28b0 : decide (((rd_T40 t368 (ji12)).f1) < (wrap64 ((wrap64 ((t360.length : Int) - 1)) - t362))) = true := decide_eq_true c28
                    clear c28
                    have H' := Aside0.mk H
                    clear H
                    have hcz29_0 : w22.cell? ⟨gb374, 0, none⟩ = some (.int .i64 0) := (blk_cell BK374.out 0).trans rfl
                    have hcz29_1 : w22.cell? ⟨gb374, 1, none⟩ = some (.int .i64 0) := (blk_cell BK374.out 1).trans rfl
                    have hfz29_0 := blk_frozen BK374.out 0
                    have hfz29_1 := blk_frozen BK374.out 1
                    go_wp2
                    repeat (go_quiet (fail); try go_wp2)
                    go_meet
                    case rel => exact ⟨_, (true), (by first | rfl | (simp; done) | (simp [*]; done)), H', ⟨by first | omega | exact Nat.le_refl _⟩, ⟨by (with_reducible repeat (first | apply Kd.R_alloc | apply Kd.R_drewN | apply Kd.R_drew)); exact Kd.R_mono (Kd.R_far (p := ⟨gb374, 1, none⟩) (Kd.R_far (p := ⟨gb374, 0, none⟩) (Kd.R_types HO364.out BK374.out (by decide)) (fun _ hk => hk.2) (.int .i64 ((rd_T40 t368 (ji12)).f0))) (fun _ hk => hk.2) (.int .i64 ((rd_T40 t368 (ji12)).f1))) (fun _ hk => hk.1)⟩, ⟨by (with_reducible repeat (first | apply Kd.R_alloc | apply Kd.R_drewN | apply Kd.R_drew)); exact Kd.R_mono (Kd.R_far (p := ⟨gb374, 1, none⟩) (Kd.R_far (p := ⟨gb374, 0, none⟩) (Kd.R_types HO366.out BK374.out (by decide)) (fun _ hk => hk.2) (.int .i64 ((rd_T40 t368 (ji12)).f0))) (fun _ hk => hk.2) (.int .i64 ((rd_T40 t368 (ji12)).f1))) (fun _ hk => hk.1)⟩, ⟨by (with_reducible repeat (first | apply Kd.R_alloc | apply Kd.R_drewN | apply Kd.R_drew)); exact Kd.R_mono (Kd.R_far (p := ⟨gb374, 1, none⟩) (Kd.R_far (p := ⟨gb374, 0, none⟩) (Kd.R_mono HO372.out (fun k_ hk => (⟨hk, hk.2⟩ : _ ∧ k_ ≠ gb374))) (fun _ hk => hk.2) (.int .i64 ((rd_T40 t368 (ji12)).f0))) (fun _ hk => hk.2) (.int .i64 ((rd_T40 t368 (ji12)).f1))) (fun _ hk => hk.1.2)⟩, ⟨by (with_reducible repeat (first | refine blk_drewN ?_ _ | refine blk_drew ?_ | refine blk_alloc ?_ _)); refine blk_put (cs := #[.int .i64 ((rd_T40 t368 (ji12)).f0), .int .i64 0]) ?_ 1 _ rfl; (with_reducible repeat (first | refine blk_drewN ?_ _ | refine blk_drew ?_ | refine blk_alloc ?_ _)); refine blk_put (cs := #[.int .i64 0, .int .i64 0]) ?_ 0 _ rfl; (with_reducible repeat (first | refine blk_drewN ?_ _ | refine blk_drew ?_ | refine blk_alloc ?_ _)); exact BK374.out⟩, ⟨by repeat (first | (with_reducible first | exact HB.out | apply below_alloc | apply pw_below_drewN | apply below_drew1 | refine below_set ?_ GE374.out) | exact HB.out)⟩⟩
                  · rw [if_neg c28] at H
                    have c28b0 : decide (((rd_T40 t368 (ji12)).f1) < (wrap64 ((wrap64 ((t360.length : Int) - 1)) - t362))) = false := decide_eq_false c28
                    clear c28
                    by_cases c30 : ((rd_T40 t368 (ji12)).f0) < 0
                    · rw [if_pos c30] at H
                      have c30b0 : decide (((rd_T40 t368 (ji12)).f0) < 0) = true := decide_eq_true c30
                      clear c30
                      have H' := Aside0.mk H
                      clear H
                      have hcz31_0 : w22.cell? ⟨gb374, 0, none⟩ = some (.int .i64 0) := (blk_cell BK374.out 0).trans rfl
                      have hcz31_1 : w22.cell? ⟨gb374, 1, none⟩ = some (.int .i64 0) := (blk_cell BK374.out 1).trans rfl
                      have hfz31_0 := blk_frozen BK374.out 0
                      have hfz31_1 := blk_frozen BK374.out 1
                      go_wp2
                      repeat (go_quiet (fail); try go_wp2)
                      go_meet
                      case rel => exact ⟨_, (true), (by first | rfl | (simp; done) | (simp [*]; done)), H', ⟨by first | omega | exact Nat.le_refl _⟩, ⟨by (with_reducible repeat (first | apply Kd.R_alloc | apply Kd.R_drewN | apply Kd.R_drew)); exact Kd.R_mono (Kd.R_far (p := ⟨gb374, 1, none⟩) (Kd.R_far (p := ⟨gb374, 0, none⟩) (Kd.R_types HO364.out BK374.out (by decide)) (fun _ hk => hk.2) (.int .i64 ((rd_T40 t368 (ji12)).f0))) (fun _ hk => hk.2) (.int .i64 ((rd_T40 t368 (ji12)).f1))) (fun _ hk => hk.1)⟩, ⟨by (with_reducible repeat (first | apply Kd.R_alloc | apply Kd.R_drewN | apply Kd.R_drew)); exact Kd.R_mono (Kd.R_far (p := ⟨gb374, 1, none⟩) (Kd.R_far (p := ⟨gb374, 0, none⟩) (Kd.R_types HO366.out BK374.out (by decide)) (fun _ hk => hk.2) (.int .i64 ((rd_T40 t368 (ji12)).f0))) (fun _ hk => hk.2) (.int .i64 ((rd_T40 t368 (ji12)).f1))) (fun _ hk => hk.1)⟩, ⟨by (with_reducible repeat (first | apply Kd.R_alloc | apply Kd.R_drewN | apply Kd.R_drew)); exact Kd.R_mono (Kd.R_far (p := ⟨gb374, 1, none⟩) (Kd.R_far (p := ⟨gb374, 0, none⟩) (Kd.R_mono HO372.out (fun k_ hk => (⟨hk, hk.2⟩ : _ ∧ k_ ≠ gb374))) (fun _ hk => hk.2) (.int .i64 ((rd_T40 t368 (ji12)).f0))) (fun _ hk => hk.2) (.int .i64 ((rd_T40 t368 (ji12)).f1))) (fun _ hk => hk.1.2)⟩, ⟨by (with_reducible repeat (first | refine blk_drewN ?_ _ | refine blk_drew ?_ | refine blk_alloc ?_ _)); refine blk_put (cs := #[.int .i64 ((rd_T40 t368 (ji12)).f0), .int .i64 0]) ?_ 1 _ rfl; (with_reducible repeat (first | refine blk_drewN ?_ _ | refine blk_drew ?_ | refine blk_alloc ?_ _)); refine blk_put (cs := #[.int .i64 0, .int .i64 0]) ?_ 0 _ rfl; (with_reducible repeat (first | refine blk_drewN ?_ _ | refine blk_drew ?_ | refine blk_alloc ?_ _)); exact BK374.out⟩, ⟨by repeat (first | (with_reducible first | exact HB.out | apply below_alloc | apply pw_below_drewN | apply below_drew1 | refine below_set ?_ GE374.out) | exact HB.out)⟩⟩
                    · rw [if_neg c30] at H
                      have c30b0 : decide (((rd_T40 t368 (ji12)).f0) < 0) = false := decide_eq_false c30
                      clear c30
                      have H' := Aside0.mk H
                      clear H
                      have hcz32_0 : w22.cell? ⟨gb374, 0, none⟩ = some (.int .i64 0) := (blk_cell BK374.out 0).trans rfl
                      have hcz32_1 : w22.cell? ⟨gb374, 1, none⟩ = some (.int .i64 0) := (blk_cell BK374.out 1).trans rfl
                      have hfz32_0 := blk_frozen BK374.out 0
                      have hfz32_1 := blk_frozen BK374.out 1
                      go_wp2
                      repeat (go_quiet (fail); try go_wp2)
                      go_meet
                      case rel => exact ⟨_, (decide (((rd_T40 t368 (ji12)).f0) > 7)), (by first | rfl | (simp; done) | (simp only [← hji12] <;> (first | rfl | simp)) | (simp [*]; done)), H', ⟨by first | omega | exact Nat.le_refl _⟩, ⟨by (with_reducible repeat (first | apply Kd.R_alloc | apply Kd.R_drewN | apply Kd.R_drew)); exact Kd.R_mono (Kd.R_far (p := ⟨gb374, 1, none⟩) (Kd.R_far (p := ⟨gb374, 0, none⟩) (Kd.R_types HO364.out BK374.out (by decide)) (fun _ hk => hk.2) (.int .i64 ((rd_T40 t368 (ji12)).f0))) (fun _ hk => hk.2) (.int .i64 ((rd_T40 t368 (ji12)).f1))) (fun _ hk => hk.1)⟩, ⟨by (with_reducible repeat (first | apply Kd.R_alloc | apply Kd.R_drewN | apply Kd.R_drew)); exact Kd.R_mono (Kd.R_far (p := ⟨gb374, 1, none⟩) (Kd.R_far (p := ⟨gb374, 0, none⟩) (Kd.R_types HO366.out BK374.out (by decide)) (fun _ hk => hk.2) (.int .i64 ((rd_T40 t368 (ji12)).f0))) (fun _ hk => hk.2) (.int .i64 ((rd_T40 t368 (ji12)).f1))) (fun _ hk => hk.1)⟩, ⟨by (with_reducible repeat (first | apply Kd.R_alloc | apply Kd.R_drewN | apply Kd.R_drew)); exact Kd.R_mono (Kd.R_far (p := ⟨gb374, 1, none⟩) (Kd.R_far (p := ⟨gb374, 0, none⟩) (Kd.R_mono HO372.out (fun k_ hk => (⟨hk, hk.2⟩ : _ ∧ k_ ≠ gb374))) (fun _ hk => hk.2) (.int .i64 ((rd_T40 t368 (ji12)).f0))) (fun _ hk => hk.2) (.int .i64 ((rd_T40 t368 (ji12)).f1))) (fun _ hk => hk.1.2)⟩, ⟨by (with_reducible repeat (first | refine blk_drewN ?_ _ | refine blk_drew ?_ | refine blk_alloc ?_ _)); refine blk_put (cs := #[.int .i64 ((rd_T40 t368 (ji12)).f0), .int .i64 0]) ?_ 1 _ rfl; (with_reducible repeat (first | refine blk_drewN ?_ _ | refine blk_drew ?_ | refine blk_alloc ?_ _)); refine blk_put (cs := #[.int .i64 0, .int .i64 0]) ?_ 0 _ rfl; (with_reducible repeat (first | refine blk_drewN ?_ _ | refine blk_drew ?_ | refine blk_alloc ?_ _)); exact BK374.out⟩, ⟨by repeat (first | (with_reducible first | exact HB.out | apply below_alloc | apply pw_below_drewN | apply below_drew1 | refine below_set ?_ GE374.out) | exact HB.out)⟩⟩
            case rest =>
              clear HC15
              try clear c1
              try clear c2
              try clear p2
              try clear c3
              try clear p3
              try clear q3
              try clear hx3
              try clear c5
              try clear c6
              try clear p6
              try clear c10
              try clear c10b0
              try clear c10b1
              try clear c11
              try clear c11b0
              try clear c11b1
              try clear c11b2
              try clear c13
              try clear c13b0
              try clear c14
              try clear c14b0
              try clear c24
              try clear c24b0
              try clear c24b1
              try clear c26
              try clear c26b0
              try clear c28
              try clear c28b0
              try clear c30
              try clear c30b0
              try clear hcz23_0
              try clear hcz23_1
              try clear hcz25_0
              try clear hcz25_1
              try clear hcz27_0
              try clear hcz27_1
              try clear hcz29_0
              try clear hcz29_1
              try clear hcz31_0
              try clear hcz31_1
              try clear hcz32_0
              try clear hcz32_1
              try clear hfz23_0
              try clear hfz23_1
              try clear hfz25_0
              try clear hfz25_1
              try clear hfz27_0
              try clear hfz27_1
              try clear hfz29_0
              try clear hfz29_1
              try clear hfz31_0
              try clear hfz31_1
              try clear hfz32_0
              try clear hfz32_1
              try clear hx373_0
              try clear hx373_1
              try clear p373
              try clear q373
              obtain ⟨kq, x82_14, rfl, HA, HJ14, HO_10, HO_11, HO_13, BK374, HB⟩ := hcut
              cases kq with
              | zero => exact absurd HA.out (by simp [dialtonelaw24_RouteHolds.j0])
              | succ kj14 =>
                have H := HA.out
                clear HA
                simp only [dialtonelaw24_RouteHolds.j0] at H
                by_cases c33 : x82_14 = true
                · subst c33
                  have H1 : (none) = some r := by rw [if_pos rfl] at H; exact H
                  clear H
                  have H := H1
                  clear H1
                  exact absurd H (by simp)
                · replace c33 := Bool.eq_false_iff.mpr c33
                  subst c33
                  have H1 : (dialtonelaw24_RouteHolds.l0 kj14 t360 t361 t368 t369 0 ((rd_T40 t368 (ji12)).f0) ((rd_T40 t368 (ji12)).f1)) = some r := by rw [if_neg (show ¬ (false = true) by decide)] at H; exact H
                  clear H
                  have H := H1
                  clear H1
                  have H' := Aside0.mk H
                  clear H
                  go_wp2
                  repeat (go_quiet (fail); try go_wp2)
                  go_loopg [17] kj14 (fun kq v17 w' => ∃ (x17_2 : Int), v17 = .int .i64 x17_2 ∧ Aside0 (dialtonelaw24_RouteHolds.l0 kq t360 t361 t368 t369 x17_2 ((rd_T40 t368 (ji12)).f0) ((rd_T40 t368 (ji12)).f1) = some r) ∧ Aside0 (kq ≤ kj14) ∧ Aside0 (Kd.R (Kd.int .i64) 3 w' w.heap.size (fun k_ => some k_ ≠ ((.slice Ao19 t361.length co19) : Value).ownBlock) (.slice Ao18 t360.length co18) t360) ∧ Aside0 (Kd.R (Kd.int .i64) 3 w' w.heap.size (fun k_ => some k_ ≠ ((.slice Ao18 t360.length co18) : Value).ownBlock) (.slice Ao19 t361.length co19) t361) ∧ Aside0 (Kd.R k40 40 w' w.heap.size (fun k_ => k_ ≠ gb374) (.slice (some ad373) t368.length co21) t368) ∧ Aside0 (w'.heap[gb374]? = some (.cells #[.int .i64 ((rd_T40 t368 (ji12)).f0), .int .i64 ((rd_T40 t368 (ji12)).f1)] 40 (0, 0))) ∧ Aside0 (Below w.heap.size w w'))
                  case atStart => exact ⟨(0), (by first | rfl | (simp; done) | (simp [*]; done)), H', ⟨Nat.le_refl _⟩, ⟨by (with_reducible repeat (first | apply Kd.R_alloc | apply Kd.R_drewN | apply Kd.R_drew)); exact HO_10.out⟩, ⟨by (with_reducible repeat (first | apply Kd.R_alloc | apply Kd.R_drewN | apply Kd.R_drew)); exact HO_11.out⟩, ⟨by (with_reducible repeat (first | apply Kd.R_alloc | apply Kd.R_drewN | apply Kd.R_drew)); exact HO_13.out⟩, ⟨by (with_reducible repeat (first | refine blk_drewN ?_ _ | refine blk_drew ?_ | refine blk_alloc ?_ _)); exact BK374.out⟩, ⟨by repeat (first | (with_reducible first | exact HB.out | apply below_alloc | apply pw_below_drewN | apply below_drew1 | refine below_set ?_ GE374.out) | exact HB.out)⟩⟩
                  case round =>
                    clear H'
                    try clear c1
                    try clear c2
                    try clear p2
                    try clear c3
                    try clear p3
                    try clear q3
                    try clear hx3
                    try clear c5
                    try clear c6
                    try clear p6
                    try clear c10
                    try clear c10b0
                    try clear c10b1
                    try clear c11
                    try clear c11b0
                    try clear c11b1
                    try clear c11b2
                    try clear c13
                    try clear c13b0
                    try clear c14
                    try clear c14b0
                    try clear c24
                    try clear c24b0
                    try clear c24b1
                    try clear c26
                    try clear c26b0
                    try clear c28
                    try clear c28b0
                    try clear c30
                    try clear c30b0
                    try clear c33
                    try clear hcz23_0
                    try clear hcz23_1
                    try clear hcz25_0
                    try clear hcz25_1
                    try clear hcz27_0
                    try clear hcz27_1
                    try clear hcz29_0
                    try clear hcz29_1
                    try clear hcz31_0
                    try clear hcz31_1
                    try clear hcz32_0
                    try clear hcz32_1
                    try clear hfz23_0
                    try clear hfz23_1
                    try clear hfz25_0
                    try clear hfz25_1
                    try clear hfz27_0
                    try clear hfz27_1
                    try clear hfz29_0
                    try clear hfz29_1
                    try clear hfz31_0
                    try clear hfz31_1
                    try clear hfz32_0
                    try clear hfz32_1
                    try clear hx373_0
                    try clear hx373_1
                    try clear p2
                    try clear p3
                    try clear p373
                    try clear p6
                    try clear q3
                    try clear q373
                    obtain ⟨x17_2, rfl, HA, HK2, HO_10, HO_11, HO_13, BK374, HB⟩ := hrel
                    cases gk with
                    | zero => exact absurd HA.out (by simp [dialtonelaw24_RouteHolds.l0])
                    | succ k2 =>
                      have H := HA.out
                      clear HA
                      simp only [dialtonelaw24_RouteHolds.l0] at H
                      by_cases c34 : x17_2 < (t368.length : Int)
                      · rw [if_pos c34] at H
                        have c34b0 : decide (x17_2 < (t368.length : Int)) = true := decide_eq_true c34
                        clear c34
                        by_cases c35 : 0 ≤ x17_2
                        · rw [if_pos c35] at H
                          have c35b0 : decide (0 ≤ x17_2) = true := decide_eq_true c35
                          clear c35
                          by_cases c36 : ((rd_T40 t368 x17_2).f0) < 0
                          · rw [if_pos c36] at H
                            exact absurd H (by simp)
                          · rw [if_neg c36] at H
                            have c36b0 : decide (((rd_T40 t368 x17_2).f0) < 0) = false := decide_eq_false c36
                            clear c36
                            by_cases c37 : ((rd_T40 t368 x17_2).f0) > 7
                            · rw [if_pos c37] at H
                              exact absurd H (by simp)
                            · rw [if_neg c37] at H
                              have c37b0 : decide (7 < ((rd_T40 t368 x17_2).f0)) = false := decide_eq_false c37
                              clear c37
                              by_cases c38 : 0 ≤ ((rd_T40 t368 x17_2).f0)
                              · rw [if_pos c38] at H
                                have c38b0 : decide (0 ≤ ((rd_T40 t368 x17_2).f0)) = true := decide_eq_true c38
                                clear c38
                                by_cases c39 : ((rd_T40 t368 x17_2).f0) < (t361.length : Int)
                                · rw [if_pos c39] at H
                                  have c39b0 : decide (((rd_T40 t368 x17_2).f0) < (t361.length : Int)) = true := decide_eq_true c39
                                  clear c39
                                  by_cases c40 : (rd t361 ((rd_T40 t368 x17_2).f0)) < 0
                                  · rw [if_pos c40] at H
                                    exact absurd H (by simp)
                                  · rw [if_neg c40] at H
                                    have c40b0 : decide ((rd t361 ((rd_T40 t368 x17_2).f0)) < 0) = false := decide_eq_false c40
                                    clear c40
                                    by_cases c41 : (rd t361 ((rd_T40 t368 x17_2).f0)) > ((rd_T40 t368 (ji12)).f1)
                                    · rw [if_pos c41] at H
                                      exact absurd H (by simp)
                                    · rw [if_neg c41] at H
                                      have c41b0 : decide (((rd_T40 t368 (ji12)).f1) < (rd t361 ((rd_T40 t368 x17_2).f0))) = false := decide_eq_false c41
                                      clear c41
                                      have H' := Aside0.mk H
                                      clear H
                                      have p375 : 0 ≤ (x17_2 : Int) := of_decide_eq_true (by first | (with_reducible assumption) | assumption)
                                      have q375 : x17_2 < (t368.length : Int) := of_decide_eq_true (by first | (with_reducible assumption) | assumption)
                                      (try (obtain ⟨Ao_, co_, eo_⟩ := Kd.R_slice HO_13.out; cases eo_))
                                      obtain ⟨ad375, e375, hx375_0, hx375_1⟩ := at_T40 (Kd.R_reads' HO_13.out).2.2 x17_2 p375 q375
                                      obtain rfl : ad373 = ad375 := (by injection e375)
                                      replace p375 := eq_true p375
                                      replace q375 := eq_true q375
                                      have p376 : 0 ≤ (x17_2 : Int) := of_decide_eq_true (by first | (with_reducible assumption) | assumption)
                                      have q376 : x17_2 < (t368.length : Int) := of_decide_eq_true (by first | (with_reducible assumption) | assumption)
                                      (try (obtain ⟨Ao_, co_, eo_⟩ := Kd.R_slice HO_13.out; cases eo_))
                                      obtain ⟨ad376, e376, hx376_0, hx376_1⟩ := at_T40 (Kd.R_reads' HO_13.out).2.2 x17_2 p376 q376
                                      obtain rfl : ad373 = ad376 := (by injection e376)
                                      replace p376 := eq_true p376
                                      replace q376 := eq_true q376
                                      have p377 : 0 ≤ (x17_2 : Int) := of_decide_eq_true (by first | (with_reducible assumption) | assumption)
                                      have q377 : x17_2 < (t368.length : Int) := of_decide_eq_true (by first | (with_reducible assumption) | assumption)
                                      (try (obtain ⟨Ao_, co_, eo_⟩ := Kd.R_slice HO_13.out; cases eo_))
                                      obtain ⟨ad377, e377, hx377_0, hx377_1⟩ := at_T40 (Kd.R_reads' HO_13.out).2.2 x17_2 p377 q377
                                      obtain rfl : ad373 = ad377 := (by injection e377)
                                      replace p377 := eq_true p377
                                      replace q377 := eq_true q377
                                      have p378 : 0 ≤ (((rd_T40 t368 x17_2).f0) : Int) := of_decide_eq_true (by first | (with_reducible assumption) | assumption)
                                      have q378 : ((rd_T40 t368 x17_2).f0) < (t361.length : Int) := of_decide_eq_true (by first | (with_reducible assumption) | assumption)
                                      (try (obtain ⟨Ao_, co_, eo_⟩ := Kd.R_slice HO_11.out; cases eo_))
                                      obtain ⟨ad378, e378, hx378_0⟩ := Kd.at_int (Kd.R_reads' HO_11.out).2.2 ((rd_T40 t368 x17_2).f0) p378 q378
                                      cases e378
                                      replace p378 := eq_true p378
                                      replace q378 := eq_true q378
                                      have p379 : 0 ≤ (x17_2 : Int) := of_decide_eq_true (by first | (with_reducible assumption) | assumption)
                                      have q379 : x17_2 < (t368.length : Int) := of_decide_eq_true (by first | (with_reducible assumption) | assumption)
                                      (try (obtain ⟨Ao_, co_, eo_⟩ := Kd.R_slice HO_13.out; cases eo_))
                                      obtain ⟨ad379, e379, hx379_0, hx379_1⟩ := at_T40 (Kd.R_reads' HO_13.out).2.2 x17_2 p379 q379
                                      obtain rfl : ad373 = ad379 := (by injection e379)
                                      replace p379 := eq_true p379
                                      replace q379 := eq_true q379
                                      have p380 : 0 ≤ (((rd_T40 t368 x17_2).f0) : Int) := of_decide_eq_true (by first | (with_reducible assumption) | assumption)
                                      have q380 : ((rd_T40 t368 x17_2).f0) < (t361.length : Int) := of_decide_eq_true (by first | (with_reducible assumption) | assumption)
                                      (try (obtain ⟨Ao_, co_, eo_⟩ := Kd.R_slice HO_11.out; cases eo_))
                                      obtain ⟨ad380, e380, hx380_0⟩ := Kd.at_int (Kd.R_reads' HO_11.out).2.2 ((rd_T40 t368 x17_2).f0) p380 q380
                                      obtain rfl : ad378 = ad380 := (by injection e380)
                                      replace p380 := eq_true p380
                                      replace q380 := eq_true q380
                                      have hcz42_0 : wr.cell? ⟨gb374, 0, none⟩ = some (.int .i64 ((rd_T40 t368 (ji12)).f0)) := (blk_cell BK374.out 0).trans rfl
                                      have hcz42_1 : wr.cell? ⟨gb374, 1, none⟩ = some (.int .i64 ((rd_T40 t368 (ji12)).f1)) := (blk_cell BK374.out 1).trans rfl
                                      have hfz42_0 := blk_frozen BK374.out 0
                                      have hfz42_1 := blk_frozen BK374.out 1
                                      go_wp2
                                      repeat (go_quiet (fail); try go_wp2)
                                      go_roundg k2
                                      case measure => have := HJ14.out; have := HK2.out; omega
                                      case rel => exact ⟨(wrap64 (x17_2 + 1)), (by first | rfl | (simp; done) | (simp [*]; done)), H', ⟨by have := HJ14.out; have := HK2.out; omega⟩, ⟨by (with_reducible repeat (first | apply Kd.R_alloc | apply Kd.R_drewN | apply Kd.R_drew)); exact HO_10.out⟩, ⟨by (with_reducible repeat (first | apply Kd.R_alloc | apply Kd.R_drewN | apply Kd.R_drew)); exact HO_11.out⟩, ⟨by (with_reducible repeat (first | apply Kd.R_alloc | apply Kd.R_drewN | apply Kd.R_drew)); exact HO_13.out⟩, ⟨by (with_reducible repeat (first | refine blk_drewN ?_ _ | refine blk_drew ?_ | refine blk_alloc ?_ _)); exact BK374.out⟩, ⟨by repeat (first | (with_reducible first | exact HB.out | apply below_alloc | apply pw_below_drewN | apply below_drew1 | refine below_set ?_ GE374.out) | exact HB.out)⟩⟩
                                · rw [if_neg c39] at H
                                  exact absurd H (by simp)
                              · rw [if_neg c38] at H
                                exact absurd H (by simp)
                        · rw [if_neg c35] at H
                          exact absurd H (by simp)
                      · rw [if_neg c34] at H
                        have c34b0 : decide (x17_2 < (t368.length : Int)) = false := decide_eq_false c34
                        clear c34
                        by_cases c43 : 0 ≤ ((rd_T40 t368 (ji12)).f1)
                        · rw [if_pos c43] at H
                          have c43b0 : decide (0 ≤ ((rd_T40 t368 (ji12)).f1)) = true := decide_eq_true c43
                          clear c43
                          by_cases c44 : ((rd_T40 t368 (ji12)).f1) < (t360.length : Int)
                          · rw [if_pos c44] at H
                            have c44b0 : decide (((rd_T40 t368 (ji12)).f1) < (t360.length : Int)) = true := decide_eq_true c44
                            clear c44
                            by_cases c45 : t369 = 1
                            · rw [if_pos c45] at H
                              have c45b0 : (t369 == 1) = true := beq_iff_eq.mpr c45
                              have c45b1 : (t369 != 1) = false := bne_eq_false_iff_eq.mpr c45
                              clear c45
                              obtain rfl := Option.some.inj H
                              have hcz46_0 : wr.cell? ⟨gb374, 0, none⟩ = some (.int .i64 ((rd_T40 t368 (ji12)).f0)) := (blk_cell BK374.out 0).trans rfl
                              have hcz46_1 : wr.cell? ⟨gb374, 1, none⟩ = some (.int .i64 ((rd_T40 t368 (ji12)).f1)) := (blk_cell BK374.out 1).trans rfl
                              have hfz46_0 := blk_frozen BK374.out 0
                              have hfz46_1 := blk_frozen BK374.out 1
                              have p381 : 0 ≤ (((rd_T40 t368 (ji12)).f1) : Int) := of_decide_eq_true (by first | (with_reducible assumption) | assumption)
                              have q381 : ((rd_T40 t368 (ji12)).f1) < (t360.length : Int) := of_decide_eq_true (by first | (with_reducible assumption) | assumption)
                              (try (obtain ⟨Ao_, co_, eo_⟩ := Kd.R_slice HO_10.out; cases eo_))
                              obtain ⟨ad381, e381, hx381_0⟩ := Kd.at_int (Kd.R_reads' HO_10.out).2.2 ((rd_T40 t368 (ji12)).f1) p381 q381
                              cases e381
                              replace p381 := eq_true p381
                              replace q381 := eq_true q381
                              go_wp2
                              repeat (go_quiet (fail); try go_wp2)
                              go_ret
                              exact ⟨by first | rfl | (simp [errW_none, errW_some] <;> rfl) | (simp only [← hji12]; first | rfl | (simp [errW_none, errW_some] <;> rfl)) | (simp [*, errW_none, errW_some] <;> rfl), by repeat (first | (with_reducible first | exact HB.out | apply below_alloc | apply pw_below_drewN | apply below_drew1 | refine below_set ?_ GE374.out) | exact HB.out)⟩
                            · rw [if_neg c45] at H
                              have c45b0 : (t369 == 1) = false := beq_eq_false_iff_ne.mpr c45
                              have c45b1 : (t369 != 1) = true := bne_iff_ne.mpr c45
                              by_cases c47 : t369 = 2
                              · rw [if_pos c47] at H
                                have c47b0 : (t369 == 2) = true := beq_iff_eq.mpr c47
                                have c47b1 : (t369 != 2) = false := bne_eq_false_iff_eq.mpr c47
                                clear c47
                                obtain rfl := Option.some.inj H
                                have hcz48_0 : wr.cell? ⟨gb374, 0, none⟩ = some (.int .i64 ((rd_T40 t368 (ji12)).f0)) := (blk_cell BK374.out 0).trans rfl
                                have hcz48_1 : wr.cell? ⟨gb374, 1, none⟩ = some (.int .i64 ((rd_T40 t368 (ji12)).f1)) := (blk_cell BK374.out 1).trans rfl
                                have hfz48_0 := blk_frozen BK374.out 0
                                have hfz48_1 := blk_frozen BK374.out 1
                                have p381 : 0 ≤ (((rd_T40 t368 (ji12)).f1) : Int) := of_decide_eq_true (by first | (with_reducible assumption) | assumption)
                                have q381 : ((rd_T40 t368 (ji12)).f1) < (t360.length : Int) := of_decide_eq_true (by first | (with_reducible assumption) | assumption)
                                (try (obtain ⟨Ao_, co_, eo_⟩ := Kd.R_slice HO_10.out; cases eo_))
                                obtain ⟨ad381, e381, hx381_0⟩ := Kd.at_int (Kd.R_reads' HO_10.out).2.2 ((rd_T40 t368 (ji12)).f1) p381 q381
                                cases e381
                                replace p381 := eq_true p381
                                replace q381 := eq_true q381
                                go_wp2
                                repeat (go_quiet (fail); try go_wp2)
                                go_ret
                                exact ⟨by first | rfl | (simp [errW_none, errW_some] <;> rfl) | (simp only [← hji12]; first | rfl | (simp [errW_none, errW_some] <;> rfl)) | (simp [*, errW_none, errW_some] <;> rfl), by repeat (first | (with_reducible first | exact HB.out | apply below_alloc | apply pw_below_drewN | apply below_drew1 | refine below_set ?_ GE374.out) | exact HB.out)⟩
                              · rw [if_neg c47] at H
                                have c47b0 : (t369 == 2) = false := beq_eq_false_iff_ne.mpr c47
                                have c47b1 : (t369 != 2) = true := bne_iff_ne.mpr c47
                                by_cases c49 : t369 = 3
                                · rw [if_pos c49] at H
                                  have c49b0 : (t369 == 3) = true := beq_iff_eq.mpr c49
                                  have c49b1 : (t369 != 3) = false := bne_eq_false_iff_eq.mpr c49
                                  clear c49
                                  by_cases c50 : (rd t360 ((rd_T40 t368 (ji12)).f1)) ≥ 0
                                  · rw [if_pos c50] at H
                                    have c50b0 : decide (0 ≤ (rd t360 ((rd_T40 t368 (ji12)).f1))) = true := decide_eq_true c50
                                    clear c50
                                    by_cases c51 : (rd t360 ((rd_T40 t368 (ji12)).f1)) = ((rd_T40 t368 (ji12)).f0)
                                    · rw [if_pos c51] at H
                                      exact absurd H (by simp)
                                    · rw [if_neg c51] at H
                                      have c51b0 : ((rd t360 ((rd_T40 t368 (ji12)).f1)) == ((rd_T40 t368 (ji12)).f0)) = false := beq_eq_false_iff_ne.mpr c51
                                      have c51b1 : ((rd t360 ((rd_T40 t368 (ji12)).f1)) != ((rd_T40 t368 (ji12)).f0)) = true := bne_iff_ne.mpr c51
                                      by_cases c52 : 0 ≤ (rd t360 ((rd_T40 t368 (ji12)).f1))
                                      · rw [if_pos c52] at H
                                        have c52b0 : decide (0 ≤ (rd t360 ((rd_T40 t368 (ji12)).f1))) = true := decide_eq_true c52
                                        clear c52
                                        by_cases c53 : (rd t360 ((rd_T40 t368 (ji12)).f1)) < (t361.length : Int)
                                        · rw [if_pos c53] at H
                                          have c53b0 : decide ((rd t360 ((rd_T40 t368 (ji12)).f1)) < (t361.length : Int)) = true := decide_eq_true c53
                                          clear c53
                                          obtain rfl := Option.some.inj H
                                          have hcz54_0 : wr.cell? ⟨gb374, 0, none⟩ = some (.int .i64 ((rd_T40 t368 (ji12)).f0)) := (blk_cell BK374.out 0).trans rfl
                                          have hcz54_1 : wr.cell? ⟨gb374, 1, none⟩ = some (.int .i64 ((rd_T40 t368 (ji12)).f1)) := (blk_cell BK374.out 1).trans rfl
                                          have hfz54_0 := blk_frozen BK374.out 0
                                          have hfz54_1 := blk_frozen BK374.out 1
                                          have p381 : 0 ≤ (((rd_T40 t368 (ji12)).f1) : Int) := of_decide_eq_true (by first | (with_reducible assumption) | assumption)
                                          have q381 : ((rd_T40 t368 (ji12)).f1) < (t360.length : Int) := of_decide_eq_true (by first | (with_reducible assumption) | assumption)
                                          (try (obtain ⟨Ao_, co_, eo_⟩ := Kd.R_slice HO_10.out; cases eo_))
                                          obtain ⟨ad381, e381, hx381_0⟩ := Kd.at_int (Kd.R_reads' HO_10.out).2.2 ((rd_T40 t368 (ji12)).f1) p381 q381
                                          cases e381
                                          replace p381 := eq_true p381
                                          replace q381 := eq_true q381
                                          have p382 : 0 ≤ ((rd t360 ((rd_T40 t368 (ji12)).f1)) : Int) := of_decide_eq_true (by first | (with_reducible assumption) | assumption)
                                          have q382 : (rd t360 ((rd_T40 t368 (ji12)).f1)) < (t361.length : Int) := of_decide_eq_true (by first | (with_reducible assumption) | assumption)
                                          (try (obtain ⟨Ao_, co_, eo_⟩ := Kd.R_slice HO_11.out; cases eo_))
                                          obtain ⟨ad382, e382, hx382_0⟩ := Kd.at_int (Kd.R_reads' HO_11.out).2.2 (rd t360 ((rd_T40 t368 (ji12)).f1)) p382 q382
                                          cases e382
                                          replace p382 := eq_true p382
                                          replace q382 := eq_true q382
                                          go_wp2
                                          repeat (go_quiet (fail); try go_wp2)
                                          go_ret
                                          exact ⟨by first | rfl | (simp [errW_none, errW_some] <;> rfl) | (simp only [← hji12]; first | rfl | (simp [errW_none, errW_some] <;> rfl)) | (simp [*, errW_none, errW_some] <;> rfl), by repeat (first | (with_reducible first | exact HB.out | apply below_alloc | apply pw_below_drewN | apply below_drew1 | refine below_set ?_ GE374.out) | exact HB.out)⟩
                                        · rw [if_neg c53] at H
                                          exact absurd H (by simp)
                                      · rw [if_neg c52] at H
                                        exact absurd H (by simp)
                                  · rw [if_neg c50] at H
                                    exact absurd H (by simp)
                                · rw [if_neg c49] at H
                                  exact absurd H (by simp)
                          · rw [if_neg c44] at H
                            exact absurd H (by simp)
                        · rw [if_neg c43] at H
                          exact absurd H (by simp)
          · rw [if_neg c14] at H
            exact absurd H (by simp)
        · rw [if_neg c13] at H
          exact absurd H (by simp)
    · rw [if_neg c10] at H
      have c10b0 : (t370 == 0) = false := beq_eq_false_iff_ne.mpr c10
      have c10b1 : (t370 != 0) = true := bne_iff_ne.mpr c10
      obtain rfl := Option.some.inj H
      go_enter Try.func5, Try.ntmps5
      go_wp2_with (first | (go_at_call 11; (with_reducible refine (dialtonelaw24_sane.calls k  true _ A5.out).mono ?_); rintro e w55 ⟨rfl, hb⟩; have n0_ := Aside0.mk (below_step (by repeat (first | (with_reducible first | exact HB.out | apply below_alloc | apply pw_below_drewN | apply below_drew1) | exact HB.out)) hb); clear HB; have HB := n0_; clear n0_; (try clear hb); (try clear hb2); (try clear hk); (try clear hi)) | (go_at_call 12; (with_reducible refine (dialtoneref24_Made.calls k _ _ l0 _ _ l1 a2 t360 t361 t362 _ ?side1 ?side2 ?side3 ?side4 A7.out).mono ?_); (case side1 => repeat (first | exact (Kd.C_below HR0.out HB.out) | (with_reducible refine Kd.C_alloc ?_ _) | (with_reducible refine Kd.C_drewN ?_ _) | (with_reducible refine Kd.C_drew ?_))); (case side2 => exact HC0.out); (case side3 => repeat (first | exact (Kd.C_below HR1.out HB.out) | (with_reducible refine Kd.C_alloc ?_ _) | (with_reducible refine Kd.C_drewN ?_ _) | (with_reducible refine Kd.C_drew ?_))); (case side4 => exact HC1.out); rintro e w56 ⟨v363, v365, rfl, ho0, ho1, hb⟩; have n0_ := Aside0.mk (Kd.R_lower ho0 (below_size (by repeat (first | (with_reducible first | exact HB.out | apply below_alloc | apply pw_below_drewN | apply below_drew1) | exact HB.out)))); have n1_ := Aside0.mk (Kd.R_lower ho1 (below_size (by repeat (first | (with_reducible first | exact HB.out | apply below_alloc | apply pw_below_drewN | apply below_drew1) | exact HB.out)))); have n2_ := Aside0.mk (below_step (by repeat (first | (with_reducible first | exact HB.out | apply below_alloc | apply pw_below_drewN | apply below_drew1) | exact HB.out)) hb); clear HB; have HO364 := n0_; have HO366 := n1_; have HB := n2_; clear n0_ n1_ n2_; (try clear hb); (try clear hb2); (try clear hk); (try clear hi); (try clear ho0); (try clear ho1)) | (go_at_call 13; (with_reducible refine (dialtonelaw24_pick.calls a3 8 t367 _ A8.out).mono ?_); rintro e w' ⟨rfl, ⟨nd, rfl⟩⟩; (try first | exact ⟨rfl, _, World.drewN_drewN _ _ _⟩ | exact ⟨rfl, _, Eq.trans (World.drewN_drewN _ _ _) (congrArg (World.drewN _) (Nat.add_assoc _ _ _))⟩); obtain ⟨Ao57, co57, eo57⟩ := Kd.R_slice HO364.out; subst eo57; obtain ⟨Ao58, co58, eo58⟩ := Kd.R_slice HO366.out; subst eo58) | (go_at_call 16; (with_reducible refine (route_Path.calls k _ _ t360 _ _ t361 t362 t367 t368 t369 t370 _ ?side1 ?side2 ?side3 ?side4 A9.out).mono ?_); (case side1 => repeat (first | exact (Kd.R_reads' HO364.out).2.2 | (with_reducible refine Kd.C_alloc ?_ _) | (with_reducible refine Kd.C_drewN ?_ _) | (with_reducible refine Kd.C_drew ?_))); (case side2 => exact (Kd.R_reads' HO364.out).2.1); (case side3 => repeat (first | exact (Kd.R_reads' HO366.out).2.2 | (with_reducible refine Kd.C_alloc ?_ _) | (with_reducible refine Kd.C_drewN ?_ _) | (with_reducible refine Kd.C_drew ?_))); (case side4 => exact (Kd.R_reads' HO366.out).2.1); rintro e w59 ⟨v371, rfl, ho0, hb⟩; have n0_ := Aside0.mk (Kd.R_below (by (with_reducible repeat (first | apply Kd.R_alloc | apply Kd.R_drewN | apply Kd.R_drew)); exact HO364.out) hb); have n1_ := Aside0.mk (Kd.R_below (by (with_reducible repeat (first | apply Kd.R_alloc | apply Kd.R_drewN | apply Kd.R_drew)); exact HO366.out) hb); have n2_ := Aside0.mk (Kd.R_lower ho0 (below_size (by repeat (first | (with_reducible first | exact HB.out | apply below_alloc | apply pw_below_drewN | apply below_drew1) | exact HB.out)))); have n3_ := Aside0.mk (below_step (by repeat (first | (with_reducible first | exact HB.out | apply below_alloc | apply pw_below_drewN | apply below_drew1) | exact HB.out)) hb); clear HO364; clear HO366; clear HB; have HO364 := n0_; have HO366 := n1_; have HO372 := n2_; have HB := n3_; clear n0_ n1_ n2_ n3_; (try clear hb); (try clear hb2); (try clear hk); (try clear hi); (try clear ho0)))
      repeat (go_quiet (first | (go_at_call 11; (with_reducible refine (dialtonelaw24_sane.calls k  true _ A5.out).mono ?_); rintro e w55 ⟨rfl, hb⟩; have n0_ := Aside0.mk (below_step (by repeat (first | (with_reducible first | exact HB.out | apply below_alloc | apply pw_below_drewN | apply below_drew1) | exact HB.out)) hb); clear HB; have HB := n0_; clear n0_; (try clear hb); (try clear hb2); (try clear hk); (try clear hi)) | (go_at_call 12; (with_reducible refine (dialtoneref24_Made.calls k _ _ l0 _ _ l1 a2 t360 t361 t362 _ ?side1 ?side2 ?side3 ?side4 A7.out).mono ?_); (case side1 => repeat (first | exact (Kd.C_below HR0.out HB.out) | (with_reducible refine Kd.C_alloc ?_ _) | (with_reducible refine Kd.C_drewN ?_ _) | (with_reducible refine Kd.C_drew ?_))); (case side2 => exact HC0.out); (case side3 => repeat (first | exact (Kd.C_below HR1.out HB.out) | (with_reducible refine Kd.C_alloc ?_ _) | (with_reducible refine Kd.C_drewN ?_ _) | (with_reducible refine Kd.C_drew ?_))); (case side4 => exact HC1.out); rintro e w56 ⟨v363, v365, rfl, ho0, ho1, hb⟩; have n0_ := Aside0.mk (Kd.R_lower ho0 (below_size (by repeat (first | (with_reducible first | exact HB.out | apply below_alloc | apply pw_below_drewN | apply below_drew1) | exact HB.out)))); have n1_ := Aside0.mk (Kd.R_lower ho1 (below_size (by repeat (first | (with_reducible first | exact HB.out | apply below_alloc | apply pw_below_drewN | apply below_drew1) | exact HB.out)))); have n2_ := Aside0.mk (below_step (by repeat (first | (with_reducible first | exact HB.out | apply below_alloc | apply pw_below_drewN | apply below_drew1) | exact HB.out)) hb); clear HB; have HO364 := n0_; have HO366 := n1_; have HB := n2_; clear n0_ n1_ n2_; (try clear hb); (try clear hb2); (try clear hk); (try clear hi); (try clear ho0); (try clear ho1)) | (go_at_call 13; (with_reducible refine (dialtonelaw24_pick.calls a3 8 t367 _ A8.out).mono ?_); rintro e w' ⟨rfl, ⟨nd, rfl⟩⟩; (try first | exact ⟨rfl, _, World.drewN_drewN _ _ _⟩ | exact ⟨rfl, _, Eq.trans (World.drewN_drewN _ _ _) (congrArg (World.drewN _) (Nat.add_assoc _ _ _))⟩); obtain ⟨Ao57, co57, eo57⟩ := Kd.R_slice HO364.out; subst eo57; obtain ⟨Ao58, co58, eo58⟩ := Kd.R_slice HO366.out; subst eo58) | (go_at_call 16; (with_reducible refine (route_Path.calls k _ _ t360 _ _ t361 t362 t367 t368 t369 t370 _ ?side1 ?side2 ?side3 ?side4 A9.out).mono ?_); (case side1 => repeat (first | exact (Kd.R_reads' HO364.out).2.2 | (with_reducible refine Kd.C_alloc ?_ _) | (with_reducible refine Kd.C_drewN ?_ _) | (with_reducible refine Kd.C_drew ?_))); (case side2 => exact (Kd.R_reads' HO364.out).2.1); (case side3 => repeat (first | exact (Kd.R_reads' HO366.out).2.2 | (with_reducible refine Kd.C_alloc ?_ _) | (with_reducible refine Kd.C_drewN ?_ _) | (with_reducible refine Kd.C_drew ?_))); (case side4 => exact (Kd.R_reads' HO366.out).2.1); rintro e w59 ⟨v371, rfl, ho0, hb⟩; have n0_ := Aside0.mk (Kd.R_below (by (with_reducible repeat (first | apply Kd.R_alloc | apply Kd.R_drewN | apply Kd.R_drew)); exact HO364.out) hb); have n1_ := Aside0.mk (Kd.R_below (by (with_reducible repeat (first | apply Kd.R_alloc | apply Kd.R_drewN | apply Kd.R_drew)); exact HO366.out) hb); have n2_ := Aside0.mk (Kd.R_lower ho0 (below_size (by repeat (first | (with_reducible first | exact HB.out | apply below_alloc | apply pw_below_drewN | apply below_drew1) | exact HB.out)))); have n3_ := Aside0.mk (below_step (by repeat (first | (with_reducible first | exact HB.out | apply below_alloc | apply pw_below_drewN | apply below_drew1) | exact HB.out)) hb); clear HO364; clear HO366; clear HB; have HO364 := n0_; have HO366 := n1_; have HO372 := n2_; have HB := n3_; clear n0_ n1_ n2_ n3_; (try clear hb); (try clear hb2); (try clear hk); (try clear hi); (try clear ho0))); try go_wp2_with (first | (go_at_call 11; (with_reducible refine (dialtonelaw24_sane.calls k  true _ A5.out).mono ?_); rintro e w55 ⟨rfl, hb⟩; have n0_ := Aside0.mk (below_step (by repeat (first | (with_reducible first | exact HB.out | apply below_alloc | apply pw_below_drewN | apply below_drew1) | exact HB.out)) hb); clear HB; have HB := n0_; clear n0_; (try clear hb); (try clear hb2); (try clear hk); (try clear hi)) | (go_at_call 12; (with_reducible refine (dialtoneref24_Made.calls k _ _ l0 _ _ l1 a2 t360 t361 t362 _ ?side1 ?side2 ?side3 ?side4 A7.out).mono ?_); (case side1 => repeat (first | exact (Kd.C_below HR0.out HB.out) | (with_reducible refine Kd.C_alloc ?_ _) | (with_reducible refine Kd.C_drewN ?_ _) | (with_reducible refine Kd.C_drew ?_))); (case side2 => exact HC0.out); (case side3 => repeat (first | exact (Kd.C_below HR1.out HB.out) | (with_reducible refine Kd.C_alloc ?_ _) | (with_reducible refine Kd.C_drewN ?_ _) | (with_reducible refine Kd.C_drew ?_))); (case side4 => exact HC1.out); rintro e w56 ⟨v363, v365, rfl, ho0, ho1, hb⟩; have n0_ := Aside0.mk (Kd.R_lower ho0 (below_size (by repeat (first | (with_reducible first | exact HB.out | apply below_alloc | apply pw_below_drewN | apply below_drew1) | exact HB.out)))); have n1_ := Aside0.mk (Kd.R_lower ho1 (below_size (by repeat (first | (with_reducible first | exact HB.out | apply below_alloc | apply pw_below_drewN | apply below_drew1) | exact HB.out)))); have n2_ := Aside0.mk (below_step (by repeat (first | (with_reducible first | exact HB.out | apply below_alloc | apply pw_below_drewN | apply below_drew1) | exact HB.out)) hb); clear HB; have HO364 := n0_; have HO366 := n1_; have HB := n2_; clear n0_ n1_ n2_; (try clear hb); (try clear hb2); (try clear hk); (try clear hi); (try clear ho0); (try clear ho1)) | (go_at_call 13; (with_reducible refine (dialtonelaw24_pick.calls a3 8 t367 _ A8.out).mono ?_); rintro e w' ⟨rfl, ⟨nd, rfl⟩⟩; (try first | exact ⟨rfl, _, World.drewN_drewN _ _ _⟩ | exact ⟨rfl, _, Eq.trans (World.drewN_drewN _ _ _) (congrArg (World.drewN _) (Nat.add_assoc _ _ _))⟩); obtain ⟨Ao57, co57, eo57⟩ := Kd.R_slice HO364.out; subst eo57; obtain ⟨Ao58, co58, eo58⟩ := Kd.R_slice HO366.out; subst eo58) | (go_at_call 16; (with_reducible refine (route_Path.calls k _ _ t360 _ _ t361 t362 t367 t368 t369 t370 _ ?side1 ?side2 ?side3 ?side4 A9.out).mono ?_); (case side1 => repeat (first | exact (Kd.R_reads' HO364.out).2.2 | (with_reducible refine Kd.C_alloc ?_ _) | (with_reducible refine Kd.C_drewN ?_ _) | (with_reducible refine Kd.C_drew ?_))); (case side2 => exact (Kd.R_reads' HO364.out).2.1); (case side3 => repeat (first | exact (Kd.R_reads' HO366.out).2.2 | (with_reducible refine Kd.C_alloc ?_ _) | (with_reducible refine Kd.C_drewN ?_ _) | (with_reducible refine Kd.C_drew ?_))); (case side4 => exact (Kd.R_reads' HO366.out).2.1); rintro e w59 ⟨v371, rfl, ho0, hb⟩; have n0_ := Aside0.mk (Kd.R_below (by (with_reducible repeat (first | apply Kd.R_alloc | apply Kd.R_drewN | apply Kd.R_drew)); exact HO364.out) hb); have n1_ := Aside0.mk (Kd.R_below (by (with_reducible repeat (first | apply Kd.R_alloc | apply Kd.R_drewN | apply Kd.R_drew)); exact HO366.out) hb); have n2_ := Aside0.mk (Kd.R_lower ho0 (below_size (by repeat (first | (with_reducible first | exact HB.out | apply below_alloc | apply pw_below_drewN | apply below_drew1) | exact HB.out)))); have n3_ := Aside0.mk (below_step (by repeat (first | (with_reducible first | exact HB.out | apply below_alloc | apply pw_below_drewN | apply below_drew1) | exact HB.out)) hb); clear HO364; clear HO366; clear HB; have HO364 := n0_; have HO366 := n1_; have HO372 := n2_; have HB := n3_; clear n0_ n1_ n2_ n3_; (try clear hb); (try clear hb2); (try clear hk); (try clear hi); (try clear ho0))))
      go_ret
      exact ⟨by first | rfl | (simp [errW_none, errW_some] <;> rfl) | (simp [*, errW_none, errW_some] <;> rfl), by repeat (first | (with_reducible first | exact HB.out | apply below_alloc | apply pw_below_drewN | apply below_drew1) | exact HB.out)⟩
  · replace c6 := Bool.eq_false_iff.mpr c6
    subst c6
    have H1 : (none) = some r := by rw [if_neg (show ¬ (false = true) by decide)] at H; exact H
    clear H
    have H := H1
    clear H1
    exact absurd H (by simp)

/-- THE ONE PURE STATEMENT of dialtonelaw24_RouteHolds: yours. -/
def dialtonelaw24_RouteHolds.Pure : Prop := ∀ (l0 : List Int) (l1 : List Int) (a2 : Int) (a3 : Int), l0.length ≤ maxLen → l0.length * 8 ≤ 140737488351232 → (∀ x ∈ l0, (Lit.int .i64 x).wf = true) → l1.length ≤ maxLen → l1.length * 8 ≤ 140737488351232 → (∀ x ∈ l1, (Lit.int .i64 x).wf = true) → (Lit.int .i64 a2).wf = true → (Lit.int .i64 a3).wf = true → ∃ k, dialtonelaw24_RouteHolds.f k l0 l1 a2 a3 = some true
theorem dialtonelaw24_RouteHolds.walk (P : dialtonelaw24_RouteHolds.Pure) (a0 : Option Addr) (len0 cap0 : Nat) (z0 : List Int) (a1 : Option Addr) (len1 cap1 : Nat) (z1 : List Int) (a2 : Int) (a3 : Int) (w : World) (w0 : (a0 = none ∧ len0 = 0 ∧ cap0 = 0 ∧ z0 = []) ∨ ∃ x, a0 = some x ∧ len0 ≤ cap0 ∧ cap0 ≤ maxLen ∧ z0.length = cap0 ∧ (∀ i, i < z0.length → w.cell? (x.add i) = some (.int .i64 (z0.getD i 0))) ∧ ∀ n ∈ z0, (Lit.int .i64 n).wf = true) (y0 : len0 * 8 ≤ 140737488351232) (w1 : (a1 = none ∧ len1 = 0 ∧ cap1 = 0 ∧ z1 = []) ∨ ∃ x, a1 = some x ∧ len1 ≤ cap1 ∧ cap1 ≤ maxLen ∧ z1.length = cap1 ∧ (∀ i, i < z1.length → w.cell? (x.add i) = some (.int .i64 (z1.getD i 0))) ∧ ∀ n ∈ z1, (Lit.int .i64 n).wf = true) (y1 : len1 * 8 ≤ 140737488351232) (w2 : (Lit.int .i64 a2).wf = true) (w3 : (Lit.int .i64 a3).wf = true) :
    Calls Try.prog 5 #[.slice a0 len0 cap0, .slice a1 len1 cap1, .int .i64 a2, .int .i64 a3] w fun e w' => e = .returned (.bool true) ∧ Below w.heap.size w w' := by
  obtain ⟨l0, rfl, hr0, hm0, hw0, hc0⟩ := ReadsInt.ofRowC w0
  obtain ⟨l1, rfl, hr1, hm1, hw1, hc1⟩ := ReadsInt.ofRowC w1
  obtain ⟨k, h⟩ := P l0 l1 a2 a3 hm0 y0 hw0 hm1 y1 hw1 w2 w3
  refine (dialtonelaw24_RouteHolds.calls k _ _ l0 _ _ l1 a2 a3 true w (Kd.C_of_reads (d := (0 : Int)) (h1 := fun _ => rfl) hr0) hc0 (Kd.C_of_reads (d := (0 : Int)) (h1 := fun _ => rfl) hr1) hc1 h).mono ?_
  rintro e w' ⟨rfl, hd⟩
  exact ⟨rfl, hd⟩

end Go.Proofs.Ytmiahmpobpokmaa.P
