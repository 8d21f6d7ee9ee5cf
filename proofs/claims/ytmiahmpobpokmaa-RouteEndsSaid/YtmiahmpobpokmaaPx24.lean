-- PRINTED by print.py (a twelfth state) out of the translation. Not trusted: Lean checks it.
import Derived.Test.YtmiahmpobpokmaaPx0
import Derived.Test.YtmiahmpobpokmaaPx4
import Derived.Test.YtmiahmpobpokmaaPx6
import Derived.Test.YtmiahmpobpokmaaPx12
import Derived.Test.YtmiahmpobpokmaaPx15
namespace Go.Proofs.Ytmiahmpobpokmaa.P
open Go.RowKit Go.Proofs.YtmiahmpobpokmaaW.PrintWords Go.Proofs.YtmiahmpobpokmaaW.PrintLast Go.Proofs.YtmiahmpobpokmaaW.PrintMore Go.Proofs.YtmiahmpobpokmaaH Go.Proofs.YtmiahmpobpokmaaR
attribute [local go_sem] max2_int min2_int max_two min_two max_three min_three max_four min_four   -- for this text's walks alone
set_option linter.unusedVariables false
set_option linter.unusedSimpArgs false

/-! ### dialtonelaw24_RouteEnds: function 4 -/
mutual
def dialtonelaw24_RouteEnds.j0 : Nat → Bool → List Int → Int → Int → List (S40) → Int → Int → Bool → Option (Bool)
  | 0, _, _, _, _, _, _, _, _ => none
  | k + 1, x9, x11, x12, x13, x14, x15, x16, x55 => if x55 = true then (none) else (if x16 = 0 then (if (x14.length : Int) < 1 then (dialtonelaw24_RouteEnds.j1 k x9 x14 true) else (if (x14.length : Int) > (wrap64 (x12 + 2)) then (dialtonelaw24_RouteEnds.j1 k x9 x14 true) else (if 0 < (x14.length : Int) then (if ((rd_T40 x14 0).f0) = x13 then (if 0 ≤ x13 then (if x13 < (x11.length : Int) then (if ((rd_T40 x14 0).f1) = (rd x11 x13) then (if x15 < 1 then (dialtonelaw24_RouteEnds.j1 k x9 x14 true) else (dialtonelaw24_RouteEnds.j1 k x9 x14 (decide (x15 > 3)))) else (dialtonelaw24_RouteEnds.j1 k x9 x14 true)) else (none)) else (none)) else (dialtonelaw24_RouteEnds.j1 k x9 x14 true)) else (none)))) else (if x16 = 240 then (if (x14.length : Int) = 0 then (some (x15 == 0)) else (none)) else (none)))
def dialtonelaw24_RouteEnds.j1 : Nat → Bool → List (S40) → Bool → Option (Bool)
  | 0, _, _, _ => none
  | k + 1, x9, x14, x105 => if x105 = true then (none) else (dialtonelaw24_RouteEnds.l0 k x9 x14 0)
def dialtonelaw24_RouteEnds.l0 : Nat → Bool → List (S40) → Int → Option (Bool)
  | 0, _, _, _ => none
  | k + 1, x9, x14, x17 => if x17 < (x14.length : Int) then (if x17 > 0 then (if 0 ≤ x17 then (if 0 ≤ (wrap64 (x17 - 1)) then (if (wrap64 (x17 - 1)) < (x14.length : Int) then (if ((rd_T40 x14 x17).f1) < ((rd_T40 x14 (wrap64 (x17 - 1))).f1) then (dialtonelaw24_RouteEnds.j3 k x9 x14 x17 true) else (if ((rd_T40 x14 x17).f1) = ((rd_T40 x14 (wrap64 (x17 - 1))).f1) then (dialtonelaw24_RouteEnds.j3 k x9 x14 x17 (decide (x17 < (wrap64 ((x14.length : Int) - 1))))) else (dialtonelaw24_RouteEnds.j3 k x9 x14 x17 false))) else (none)) else (none)) else (none)) else (dialtonelaw24_RouteEnds.j3 k x9 x14 x17 false)) else (some x9)
def dialtonelaw24_RouteEnds.j3 : Nat → Bool → List (S40) → Int → Bool → Option (Bool)
  | 0, _, _, _, _ => none
  | k + 1, x9, x14, x17, x148 => if x148 = true then (none) else (dialtonelaw24_RouteEnds.l1 k x9 x14 x17 0)
def dialtonelaw24_RouteEnds.l1 : Nat → Bool → List (S40) → Int → Int → Option (Bool)
  | 0, _, _, _, _ => none
  | k + 1, x9, x14, x17, x18 => if x18 < x17 then (if 0 ≤ x18 then (if x18 < (x14.length : Int) then (if 0 ≤ x17 then (if x17 < (x14.length : Int) then (if ((rd_T40 x14 x18).f0) = ((rd_T40 x14 x17).f0) then (none) else (dialtonelaw24_RouteEnds.l1 k x9 x14 x17 (wrap64 (x18 + 1)))) else (none)) else (none)) else (none)) else (none)) else (dialtonelaw24_RouteEnds.l0 k x9 x14 (wrap64 (x17 + 1)))
end
def dialtonelaw24_RouteEnds.f (k : Nat) (l0 : List Int) (l1 : List Int) (a2 : Int) (a3 : Int) : Option (Bool) := (dialtonelaw24_sane.f k).bind fun t334 => (if t334 = true then ((dialtoneref24_Made.f k l0 l1 a2).bind fun bt335 => ((dialtonelaw24_pick.f a3 8).bind fun t342 => ((route_Path.f k bt335.1 bt335.2.1 bt335.2.2 t342).bind fun bt343 => ((route_Valid.f bt335.1 bt335.2.1 bt335.2.2).bind fun t348 => (if t348 = true then (if 0 ≤ t342 then (if t342 < (bt335.2.1.length : Int) then (dialtonelaw24_RouteEnds.j0 k t334 bt335.2.1 bt335.2.2 t342 bt343.1 bt343.2.1 bt343.2.2 ((bt343.2.2 == 0) != (decide ((rd bt335.2.1 t342) ≥ 0)))) else (none)) else (none)) else (dialtonelaw24_RouteEnds.j0 k t334 bt335.2.1 bt335.2.2 t342 bt343.1 bt343.2.1 bt343.2.2 true)))))) else (none))
theorem dialtonelaw24_RouteEnds.mono_l : ∀ k, (∀ y0 y1 y2 y3 y4 y5 y6 y7, LeO (dialtonelaw24_RouteEnds.j0 k y0 y1 y2 y3 y4 y5 y6 y7) (dialtonelaw24_RouteEnds.j0 (k + 1) y0 y1 y2 y3 y4 y5 y6 y7)) ∧ (∀ y0 y1 y2, LeO (dialtonelaw24_RouteEnds.j1 k y0 y1 y2) (dialtonelaw24_RouteEnds.j1 (k + 1) y0 y1 y2)) ∧ (∀ y0 y1 y2, LeO (dialtonelaw24_RouteEnds.l0 k y0 y1 y2) (dialtonelaw24_RouteEnds.l0 (k + 1) y0 y1 y2)) ∧ (∀ y0 y1 y2 y3, LeO (dialtonelaw24_RouteEnds.j3 k y0 y1 y2 y3) (dialtonelaw24_RouteEnds.j3 (k + 1) y0 y1 y2 y3)) ∧ (∀ y0 y1 y2 y3, LeO (dialtonelaw24_RouteEnds.l1 k y0 y1 y2 y3) (dialtonelaw24_RouteEnds.l1 (k + 1) y0 y1 y2 y3))
  | 0 => ⟨fun _ _ _ _ _ _ _ _ r h => by simp [dialtonelaw24_RouteEnds.j0] at h, fun _ _ _ r h => by simp [dialtonelaw24_RouteEnds.j1] at h, fun _ _ _ r h => by simp [dialtonelaw24_RouteEnds.l0] at h, fun _ _ _ _ r h => by simp [dialtonelaw24_RouteEnds.j3] at h, fun _ _ _ _ r h => by simp [dialtonelaw24_RouteEnds.l1] at h⟩
  | k + 1 => by
    obtain ⟨ih0, ih1, ih2, ih3, ih4⟩ := dialtonelaw24_RouteEnds.mono_l k
    refine ⟨?_, ?_, ?_, ?_, ?_⟩
    · intro y0 y1 y2 y3 y4 y5 y6 y7
      unfold dialtonelaw24_RouteEnds.j0
      repeat' first
      | (with_reducible exact ih0 _ _ _ _ _ _ _ _)
      | (with_reducible exact ih1 _ _ _)
      | (with_reducible exact ih2 _ _ _)
      | (with_reducible exact ih3 _ _ _ _)
      | (with_reducible exact ih4 _ _ _ _)
      | (with_reducible exact dialtonelaw24_sane.mono _)
      | (with_reducible exact dialtoneref24_Made.mono _ _ _ _)
      | (with_reducible exact route_Path.mono _ _ _ _ _)
      | (with_reducible exact LeO.refl _)
      | (with_reducible exact LeO.none _)
      | (with_reducible refine LeO.ite ?_ ?_)
      | (with_reducible refine LeO.bind ?_ (fun _ => ?_))
      | exact ih0 _ _ _ _ _ _ _ _
      | exact ih1 _ _ _
      | exact ih2 _ _ _
      | exact ih3 _ _ _ _
      | exact ih4 _ _ _ _
      | exact dialtonelaw24_sane.mono _
      | exact dialtoneref24_Made.mono _ _ _ _
      | exact route_Path.mono _ _ _ _ _
      | exact LeO.none _
      | refine LeO.ite ?_ ?_
      | refine LeO.bind ?_ (fun _ => ?_)
    · intro y0 y1 y2
      unfold dialtonelaw24_RouteEnds.j1
      repeat' first
      | (with_reducible exact ih0 _ _ _ _ _ _ _ _)
      | (with_reducible exact ih1 _ _ _)
      | (with_reducible exact ih2 _ _ _)
      | (with_reducible exact ih3 _ _ _ _)
      | (with_reducible exact ih4 _ _ _ _)
      | (with_reducible exact dialtonelaw24_sane.mono _)
      | (with_reducible exact dialtoneref24_Made.mono _ _ _ _)
      | (with_reducible exact route_Path.mono _ _ _ _ _)
      | (with_reducible exact LeO.refl _)
      | (with_reducible exact LeO.none _)
      | (with_reducible refine LeO.ite ?_ ?_)
      | (with_reducible refine LeO.bind ?_ (fun _ => ?_))
      | exact ih0 _ _ _ _ _ _ _ _
      | exact ih1 _ _ _
      | exact ih2 _ _ _
      | exact ih3 _ _ _ _
      | exact ih4 _ _ _ _
      | exact dialtonelaw24_sane.mono _
      | exact dialtoneref24_Made.mono _ _ _ _
      | exact route_Path.mono _ _ _ _ _
      | exact LeO.none _
      | refine LeO.ite ?_ ?_
      | refine LeO.bind ?_ (fun _ => ?_)
    · intro y0 y1 y2
      unfold dialtonelaw24_RouteEnds.l0
      repeat' first
      | (with_reducible exact ih0 _ _ _ _ _ _ _ _)
      | (with_reducible exact ih1 _ _ _)
      | (with_reducible exact ih2 _ _ _)
      | (with_reducible exact ih3 _ _ _ _)
      | (with_reducible exact ih4 _ _ _ _)
      | (with_reducible exact dialtonelaw24_sane.mono _)
      | (with_reducible exact dialtoneref24_Made.mono _ _ _ _)
      | (with_reducible exact route_Path.mono _ _ _ _ _)
      | (with_reducible exact LeO.refl _)
      | (with_reducible exact LeO.none _)
      | (with_reducible refine LeO.ite ?_ ?_)
      | (with_reducible refine LeO.bind ?_ (fun _ => ?_))
      | exact ih0 _ _ _ _ _ _ _ _
      | exact ih1 _ _ _
      | exact ih2 _ _ _
      | exact ih3 _ _ _ _
      | exact ih4 _ _ _ _
      | exact dialtonelaw24_sane.mono _
      | exact dialtoneref24_Made.mono _ _ _ _
      | exact route_Path.mono _ _ _ _ _
      | exact LeO.none _
      | refine LeO.ite ?_ ?_
      | refine LeO.bind ?_ (fun _ => ?_)
    · intro y0 y1 y2 y3
      unfold dialtonelaw24_RouteEnds.j3
      repeat' first
      | (with_reducible exact ih0 _ _ _ _ _ _ _ _)
      | (with_reducible exact ih1 _ _ _)
      | (with_reducible exact ih2 _ _ _)
      | (with_reducible exact ih3 _ _ _ _)
      | (with_reducible exact ih4 _ _ _ _)
      | (with_reducible exact dialtonelaw24_sane.mono _)
      | (with_reducible exact dialtoneref24_Made.mono _ _ _ _)
      | (with_reducible exact route_Path.mono _ _ _ _ _)
      | (with_reducible exact LeO.refl _)
      | (with_reducible exact LeO.none _)
      | (with_reducible refine LeO.ite ?_ ?_)
      | (with_reducible refine LeO.bind ?_ (fun _ => ?_))
      | exact ih0 _ _ _ _ _ _ _ _
      | exact ih1 _ _ _
      | exact ih2 _ _ _
      | exact ih3 _ _ _ _
      | exact ih4 _ _ _ _
      | exact dialtonelaw24_sane.mono _
      | exact dialtoneref24_Made.mono _ _ _ _
      | exact route_Path.mono _ _ _ _ _
      | exact LeO.none _
      | refine LeO.ite ?_ ?_
      | refine LeO.bind ?_ (fun _ => ?_)
    · intro y0 y1 y2 y3
      unfold dialtonelaw24_RouteEnds.l1
      repeat' first
      | (with_reducible exact ih0 _ _ _ _ _ _ _ _)
      | (with_reducible exact ih1 _ _ _)
      | (with_reducible exact ih2 _ _ _)
      | (with_reducible exact ih3 _ _ _ _)
      | (with_reducible exact ih4 _ _ _ _)
      | (with_reducible exact dialtonelaw24_sane.mono _)
      | (with_reducible exact dialtoneref24_Made.mono _ _ _ _)
      | (with_reducible exact route_Path.mono _ _ _ _ _)
      | (with_reducible exact LeO.refl _)
      | (with_reducible exact LeO.none _)
      | (with_reducible refine LeO.ite ?_ ?_)
      | (with_reducible refine LeO.bind ?_ (fun _ => ?_))
      | exact ih0 _ _ _ _ _ _ _ _
      | exact ih1 _ _ _
      | exact ih2 _ _ _
      | exact ih3 _ _ _ _
      | exact ih4 _ _ _ _
      | exact dialtonelaw24_sane.mono _
      | exact dialtoneref24_Made.mono _ _ _ _
      | exact route_Path.mono _ _ _ _ _
      | exact LeO.none _
      | refine LeO.ite ?_ ?_
      | refine LeO.bind ?_ (fun _ => ?_)
theorem dialtonelaw24_RouteEnds.mono : ∀ a0 a1 a2 a3 k, LeO (dialtonelaw24_RouteEnds.f k a0 a1 a2 a3) (dialtonelaw24_RouteEnds.f (k + 1) a0 a1 a2 a3) := by
  intro a0 a1 a2 a3 k
  obtain ⟨ih0, ih1, ih2, ih3, ih4⟩ := dialtonelaw24_RouteEnds.mono_l k
  unfold dialtonelaw24_RouteEnds.f
  repeat' first
      | (with_reducible exact ih0 _ _ _ _ _ _ _ _)
      | (with_reducible exact ih1 _ _ _)
      | (with_reducible exact ih2 _ _ _)
      | (with_reducible exact ih3 _ _ _ _)
      | (with_reducible exact ih4 _ _ _ _)
      | (with_reducible exact dialtonelaw24_sane.mono _)
      | (with_reducible exact dialtoneref24_Made.mono _ _ _ _)
      | (with_reducible exact route_Path.mono _ _ _ _ _)
      | (with_reducible exact LeO.refl _)
      | (with_reducible exact LeO.none _)
      | (with_reducible refine LeO.ite ?_ ?_)
      | (with_reducible refine LeO.bind ?_ (fun _ => ?_))
      | exact ih0 _ _ _ _ _ _ _ _
      | exact ih1 _ _ _
      | exact ih2 _ _ _
      | exact ih3 _ _ _ _
      | exact ih4 _ _ _ _
      | exact dialtonelaw24_sane.mono _
      | exact dialtoneref24_Made.mono _ _ _ _
      | exact route_Path.mono _ _ _ _ _
      | exact LeO.none _
      | refine LeO.ite ?_ ?_
      | refine LeO.bind ?_ (fun _ => ?_)
set_option maxHeartbeats 8000000 in
set_option maxRecDepth 100000 in
theorem dialtonelaw24_RouteEnds.calls (k : Nat) (A0 : Option Addr) (c0 : Nat) (l0 : List Int) (A1 : Option Addr) (c1 : Nat) (l1 : List Int) (a2 : Int) (a3 : Int) (r : Bool) (w : World) (hr0 : Kd.C (Kd.int .i64) w A0 l0.length l0) (hc0 : l0.length ≤ c0) (hr1 : Kd.C (Kd.int .i64) w A1 l1.length l1) (hc1 : l1.length ≤ c1) (h : dialtonelaw24_RouteEnds.f k l0 l1 a2 a3 = some r) :
    Calls Try.prog 4 #[.slice A0 l0.length c0, .slice A1 l1.length c1, .int .i64 a2, .int .i64 a3] w fun e w' => e = .returned (.bool r) ∧ Below w.heap.size w w' := by
  have HR0 := Aside0.mk hr0
  have HC0 := Aside0.mk hc0
  clear hr0 hc0
  have HR1 := Aside0.mk hr1
  have HC1 := Aside0.mk hc1
  clear hr1 hc1
  have HB := Aside0.mk (Below.refl w.heap.size w)
  have H : ((dialtonelaw24_sane.f k).bind fun t334 => (if t334 = true then ((dialtoneref24_Made.f k l0 l1 a2).bind fun bt335 => ((dialtonelaw24_pick.f a3 8).bind fun t342 => ((route_Path.f k bt335.1 bt335.2.1 bt335.2.2 t342).bind fun bt343 => ((route_Valid.f bt335.1 bt335.2.1 bt335.2.2).bind fun t348 => (if t348 = true then (if 0 ≤ t342 then (if t342 < (bt335.2.1.length : Int) then (dialtonelaw24_RouteEnds.j0 k t334 bt335.2.1 bt335.2.2 t342 bt343.1 bt343.2.1 bt343.2.2 ((bt343.2.2 == 0) != (decide ((rd bt335.2.1 t342) ≥ 0)))) else (none)) else (none)) else (dialtonelaw24_RouteEnds.j0 k t334 bt335.2.1 bt335.2.2 t342 bt343.1 bt343.2.1 bt343.2.2 true)))))) else (none))) = some r := h
  clear h
  replace H := Option.bind_eq_some_iff.mp H
  obtain ⟨t334, A50, H⟩ := H
  replace H : (if t334 = true then ((dialtoneref24_Made.f k l0 l1 a2).bind fun bt335 => ((dialtonelaw24_pick.f a3 8).bind fun t342 => ((route_Path.f k bt335.1 bt335.2.1 bt335.2.2 t342).bind fun bt343 => ((route_Valid.f bt335.1 bt335.2.1 bt335.2.2).bind fun t348 => (if t348 = true then (if 0 ≤ t342 then (if t342 < (bt335.2.1.length : Int) then (dialtonelaw24_RouteEnds.j0 k t334 bt335.2.1 bt335.2.2 t342 bt343.1 bt343.2.1 bt343.2.2 ((bt343.2.2 == 0) != (decide ((rd bt335.2.1 t342) ≥ 0)))) else (none)) else (none)) else (dialtonelaw24_RouteEnds.j0 k t334 bt335.2.1 bt335.2.2 t342 bt343.1 bt343.2.1 bt343.2.2 true)))))) else (none)) = some r := H
  have A5 := Aside0.mk A50
  clear A50
  by_cases c6 : t334 = true
  · subst c6
    have H1 : ((dialtoneref24_Made.f k l0 l1 a2).bind fun bt335 => ((dialtonelaw24_pick.f a3 8).bind fun t342 => ((route_Path.f k bt335.1 bt335.2.1 bt335.2.2 t342).bind fun bt343 => ((route_Valid.f bt335.1 bt335.2.1 bt335.2.2).bind fun t348 => (if t348 = true then (if 0 ≤ t342 then (if t342 < (bt335.2.1.length : Int) then (dialtonelaw24_RouteEnds.j0 k true bt335.2.1 bt335.2.2 t342 bt343.1 bt343.2.1 bt343.2.2 ((bt343.2.2 == 0) != (decide ((rd bt335.2.1 t342) ≥ 0)))) else (none)) else (none)) else (dialtonelaw24_RouteEnds.j0 k true bt335.2.1 bt335.2.2 t342 bt343.1 bt343.2.1 bt343.2.2 true)))))) = some r := by rw [if_pos rfl] at H; exact H
    clear H
    have H := H1
    clear H1
    replace H := Option.bind_eq_some_iff.mp H
    obtain ⟨⟨t335, t336, t337⟩, A70, H⟩ := H
    replace H : ((dialtonelaw24_pick.f a3 8).bind fun t342 => ((route_Path.f k t335 t336 t337 t342).bind fun bt343 => ((route_Valid.f t335 t336 t337).bind fun t348 => (if t348 = true then (if 0 ≤ t342 then (if t342 < (t336.length : Int) then (dialtonelaw24_RouteEnds.j0 k true t336 t337 t342 bt343.1 bt343.2.1 bt343.2.2 ((bt343.2.2 == 0) != (decide ((rd t336 t342) ≥ 0)))) else (none)) else (none)) else (dialtonelaw24_RouteEnds.j0 k true t336 t337 t342 bt343.1 bt343.2.1 bt343.2.2 true))))) = some r := H
    have A7 := Aside0.mk A70
    clear A70
    replace H := Option.bind_eq_some_iff.mp H
    obtain ⟨t342, A80, H⟩ := H
    replace H : ((route_Path.f k t335 t336 t337 t342).bind fun bt343 => ((route_Valid.f t335 t336 t337).bind fun t348 => (if t348 = true then (if 0 ≤ t342 then (if t342 < (t336.length : Int) then (dialtonelaw24_RouteEnds.j0 k true t336 t337 t342 bt343.1 bt343.2.1 bt343.2.2 ((bt343.2.2 == 0) != (decide ((rd t336 t342) ≥ 0)))) else (none)) else (none)) else (dialtonelaw24_RouteEnds.j0 k true t336 t337 t342 bt343.1 bt343.2.1 bt343.2.2 true)))) = some r := H
    have A8 := Aside0.mk A80
    clear A80
    replace H := Option.bind_eq_some_iff.mp H
    obtain ⟨⟨t343, t344, t345⟩, A90, H⟩ := H
    replace H : ((route_Valid.f t335 t336 t337).bind fun t348 => (if t348 = true then (if 0 ≤ t342 then (if t342 < (t336.length : Int) then (dialtonelaw24_RouteEnds.j0 k true t336 t337 t342 t343 t344 t345 ((t345 == 0) != (decide ((rd t336 t342) ≥ 0)))) else (none)) else (none)) else (dialtonelaw24_RouteEnds.j0 k true t336 t337 t342 t343 t344 t345 true))) = some r := H
    have A9 := Aside0.mk A90
    clear A90
    have HC10 := Aside0.mk H
    clear H
    go_enter Try.func4, Try.ntmps4
    go_upto_region 7 with (first | (go_at_call 11; (with_reducible refine (dialtonelaw24_sane.calls k  true _ A5.out).mono ?_); rintro e w11 ⟨rfl, hb⟩; have n0_ := Aside0.mk (below_step (by repeat (first | (with_reducible first | exact HB.out | apply below_alloc | apply pw_below_drewN | apply below_drew1) | exact HB.out)) hb); clear HB; have HB := n0_; clear n0_; (try clear hb); (try clear hb2); (try clear hk); (try clear hi)) | (go_at_call 12; (with_reducible refine (dialtoneref24_Made.calls k _ _ l0 _ _ l1 a2 t335 t336 t337 _ ?side1 ?side2 ?side3 ?side4 A7.out).mono ?_); (case side1 => repeat (first | exact (Kd.C_below HR0.out HB.out) | (with_reducible refine Kd.C_alloc ?_ _) | (with_reducible refine Kd.C_drewN ?_ _) | (with_reducible refine Kd.C_drew ?_))); (case side2 => exact HC0.out); (case side3 => repeat (first | exact (Kd.C_below HR1.out HB.out) | (with_reducible refine Kd.C_alloc ?_ _) | (with_reducible refine Kd.C_drewN ?_ _) | (with_reducible refine Kd.C_drew ?_))); (case side4 => exact HC1.out); rintro e w12 ⟨v338, v340, rfl, ho0, ho1, hb⟩; have n0_ := Aside0.mk (Kd.R_lower ho0 (below_size (by repeat (first | (with_reducible first | exact HB.out | apply below_alloc | apply pw_below_drewN | apply below_drew1) | exact HB.out)))); have n1_ := Aside0.mk (Kd.R_lower ho1 (below_size (by repeat (first | (with_reducible first | exact HB.out | apply below_alloc | apply pw_below_drewN | apply below_drew1) | exact HB.out)))); have n2_ := Aside0.mk (below_step (by repeat (first | (with_reducible first | exact HB.out | apply below_alloc | apply pw_below_drewN | apply below_drew1) | exact HB.out)) hb); clear HB; have HO339 := n0_; have HO341 := n1_; have HB := n2_; clear n0_ n1_ n2_; (try clear hb); (try clear hb2); (try clear hk); (try clear hi); (try clear ho0); (try clear ho1)) | (go_at_call 13; (with_reducible refine (dialtonelaw24_pick.calls a3 8 t342 _ A8.out).mono ?_); rintro e w' ⟨rfl, ⟨nd, rfl⟩⟩; (try first | exact ⟨rfl, _, World.drewN_drewN _ _ _⟩ | exact ⟨rfl, _, Eq.trans (World.drewN_drewN _ _ _) (congrArg (World.drewN _) (Nat.add_assoc _ _ _))⟩); obtain ⟨Ao13, co13, eo13⟩ := Kd.R_slice HO339.out; subst eo13; obtain ⟨Ao14, co14, eo14⟩ := Kd.R_slice HO341.out; subst eo14) | (go_at_call 16; (with_reducible refine (route_Path.calls k _ _ t335 _ _ t336 t337 t342 t343 t344 t345 _ ?side1 ?side2 ?side3 ?side4 A9.out).mono ?_); (case side1 => repeat (first | exact (Kd.R_reads' HO339.out).2.2 | (with_reducible refine Kd.C_alloc ?_ _) | (with_reducible refine Kd.C_drewN ?_ _) | (with_reducible refine Kd.C_drew ?_))); (case side2 => exact (Kd.R_reads' HO339.out).2.1); (case side3 => repeat (first | exact (Kd.R_reads' HO341.out).2.2 | (with_reducible refine Kd.C_alloc ?_ _) | (with_reducible refine Kd.C_drewN ?_ _) | (with_reducible refine Kd.C_drew ?_))); (case side4 => exact (Kd.R_reads' HO341.out).2.1); rintro e w15 ⟨v346, rfl, ho0, hb⟩; have n0_ := Aside0.mk (Kd.R_below (by (with_reducible repeat (first | apply Kd.R_alloc | apply Kd.R_drewN | apply Kd.R_drew)); exact HO339.out) hb); have n1_ := Aside0.mk (Kd.R_below (by (with_reducible repeat (first | apply Kd.R_alloc | apply Kd.R_drewN | apply Kd.R_drew)); exact HO341.out) hb); have n2_ := Aside0.mk (Kd.R_lower ho0 (below_size (by repeat (first | (with_reducible first | exact HB.out | apply below_alloc | apply pw_below_drewN | apply below_drew1) | exact HB.out)))); have n3_ := Aside0.mk (below_step (by repeat (first | (with_reducible first | exact HB.out | apply below_alloc | apply pw_below_drewN | apply below_drew1) | exact HB.out)) hb); clear HO339; clear HO341; clear HB; have HO339 := n0_; have HO341 := n1_; have HO347 := n2_; have HB := n3_; clear n0_ n1_ n2_ n3_; (try clear hb); (try clear hb2); (try clear hk); (try clear hi); (try clear ho0)))
    repeat (go_quiet (first | (go_at_call 11; (with_reducible refine (dialtonelaw24_sane.calls k  true _ A5.out).mono ?_); rintro e w11 ⟨rfl, hb⟩; have n0_ := Aside0.mk (below_step (by repeat (first | (with_reducible first | exact HB.out | apply below_alloc | apply pw_below_drewN | apply below_drew1) | exact HB.out)) hb); clear HB; have HB := n0_; clear n0_; (try clear hb); (try clear hb2); (try clear hk); (try clear hi)) | (go_at_call 12; (with_reducible refine (dialtoneref24_Made.calls k _ _ l0 _ _ l1 a2 t335 t336 t337 _ ?side1 ?side2 ?side3 ?side4 A7.out).mono ?_); (case side1 => repeat (first | exact (Kd.C_below HR0.out HB.out) | (with_reducible refine Kd.C_alloc ?_ _) | (with_reducible refine Kd.C_drewN ?_ _) | (with_reducible refine Kd.C_drew ?_))); (case side2 => exact HC0.out); (case side3 => repeat (first | exact (Kd.C_below HR1.out HB.out) | (with_reducible refine Kd.C_alloc ?_ _) | (with_reducible refine Kd.C_drewN ?_ _) | (with_reducible refine Kd.C_drew ?_))); (case side4 => exact HC1.out); rintro e w12 ⟨v338, v340, rfl, ho0, ho1, hb⟩; have n0_ := Aside0.mk (Kd.R_lower ho0 (below_size (by repeat (first | (with_reducible first | exact HB.out | apply below_alloc | apply pw_below_drewN | apply below_drew1) | exact HB.out)))); have n1_ := Aside0.mk (Kd.R_lower ho1 (below_size (by repeat (first | (with_reducible first | exact HB.out | apply below_alloc | apply pw_below_drewN | apply below_drew1) | exact HB.out)))); have n2_ := Aside0.mk (below_step (by repeat (first | (with_reducible first | exact HB.out | apply below_alloc | apply pw_below_drewN | apply below_drew1) | exact HB.out)) hb); clear HB; have HO339 := n0_; have HO341 := n1_; have HB := n2_; clear n0_ n1_ n2_; (try clear hb); (try clear hb2); (try clear hk); (try clear hi); (try clear ho0); (try clear ho1)) | (go_at_call 13; (with_reducible refine (dialtonelaw24_pick.calls a3 8 t342 _ A8.out).mono ?_); rintro e w' ⟨rfl, ⟨nd, rfl⟩⟩; (try first | exact ⟨rfl, _, World.drewN_drewN _ _ _⟩ | exact ⟨rfl, _, Eq.trans (World.drewN_drewN _ _ _) (congrArg (World.drewN _) (Nat.add_assoc _ _ _))⟩); obtain ⟨Ao13, co13, eo13⟩ := Kd.R_slice HO339.out; subst eo13; obtain ⟨Ao14, co14, eo14⟩ := Kd.R_slice HO341.out; subst eo14) | (go_at_call 16; (with_reducible refine (route_Path.calls k _ _ t335 _ _ t336 t337 t342 t343 t344 t345 _ ?side1 ?side2 ?side3 ?side4 A9.out).mono ?_); (case side1 => repeat (first | exact (Kd.R_reads' HO339.out).2.2 | (with_reducible refine Kd.C_alloc ?_ _) | (with_reducible refine Kd.C_drewN ?_ _) | (with_reducible refine Kd.C_drew ?_))); (case side2 => exact (Kd.R_reads' HO339.out).2.1); (case side3 => repeat (first | exact (Kd.R_reads' HO341.out).2.2 | (with_reducible refine Kd.C_alloc ?_ _) | (with_reducible refine Kd.C_drewN ?_ _) | (with_reducible refine Kd.C_drew ?_))); (case side4 => exact (Kd.R_reads' HO341.out).2.1); rintro e w15 ⟨v346, rfl, ho0, hb⟩; have n0_ := Aside0.mk (Kd.R_below (by (with_reducible repeat (first | apply Kd.R_alloc | apply Kd.R_drewN | apply Kd.R_drew)); exact HO339.out) hb); have n1_ := Aside0.mk (Kd.R_below (by (with_reducible repeat (first | apply Kd.R_alloc | apply Kd.R_drewN | apply Kd.R_drew)); exact HO341.out) hb); have n2_ := Aside0.mk (Kd.R_lower ho0 (below_size (by repeat (first | (with_reducible first | exact HB.out | apply below_alloc | apply pw_below_drewN | apply below_drew1) | exact HB.out)))); have n3_ := Aside0.mk (below_step (by repeat (first | (with_reducible first | exact HB.out | apply below_alloc | apply pw_below_drewN | apply below_drew1) | exact HB.out)) hb); clear HO339; clear HO341; clear HB; have HO339 := n0_; have HO341 := n1_; have HO347 := n2_; have HB := n3_; clear n0_ n1_ n2_ n3_; (try clear hb); (try clear hb2); (try clear hk); (try clear hi); (try clear ho0))); go_upto_region 7 with (first | (go_at_call 11; (with_reducible refine (dialtonelaw24_sane.calls k  true _ A5.out).mono ?_); rintro e w11 ⟨rfl, hb⟩; have n0_ := Aside0.mk (below_step (by repeat (first | (with_reducible first | exact HB.out | apply below_alloc | apply pw_below_drewN | apply below_drew1) | exact HB.out)) hb); clear HB; have HB := n0_; clear n0_; (try clear hb); (try clear hb2); (try clear hk); (try clear hi)) | (go_at_call 12; (with_reducible refine (dialtoneref24_Made.calls k _ _ l0 _ _ l1 a2 t335 t336 t337 _ ?side1 ?side2 ?side3 ?side4 A7.out).mono ?_); (case side1 => repeat (first | exact (Kd.C_below HR0.out HB.out) | (with_reducible refine Kd.C_alloc ?_ _) | (with_reducible refine Kd.C_drewN ?_ _) | (with_reducible refine Kd.C_drew ?_))); (case side2 => exact HC0.out); (case side3 => repeat (first | exact (Kd.C_below HR1.out HB.out) | (with_reducible refine Kd.C_alloc ?_ _) | (with_reducible refine Kd.C_drewN ?_ _) | (with_reducible refine Kd.C_drew ?_))); (case side4 => exact HC1.out); rintro e w12 ⟨v338, v340, rfl, ho0, ho1, hb⟩; have n0_ := Aside0.mk (Kd.R_lower ho0 (below_size (by repeat (first | (with_reducible first | exact HB.out | apply below_alloc | apply pw_below_drewN | apply below_drew1) | exact HB.out)))); have n1_ := Aside0.mk (Kd.R_lower ho1 (below_size (by repeat (first | (with_reducible first | exact HB.out | apply below_alloc | apply pw_below_drewN | apply below_drew1) | exact HB.out)))); have n2_ := Aside0.mk (below_step (by repeat (first | (with_reducible first | exact HB.out | apply below_alloc | apply pw_below_drewN | apply below_drew1) | exact HB.out)) hb); clear HB; have HO339 := n0_; have HO341 := n1_; have HB := n2_; clear n0_ n1_ n2_; (try clear hb); (try clear hb2); (try clear hk); (try clear hi); (try clear ho0); (try clear ho1)) | (go_at_call 13; (with_reducible refine (dialtonelaw24_pick.calls a3 8 t342 _ A8.out).mono ?_); rintro e w' ⟨rfl, ⟨nd, rfl⟩⟩; (try first | exact ⟨rfl, _, World.drewN_drewN _ _ _⟩ | exact ⟨rfl, _, Eq.trans (World.drewN_drewN _ _ _) (congrArg (World.drewN _) (Nat.add_assoc _ _ _))⟩); obtain ⟨Ao13, co13, eo13⟩ := Kd.R_slice HO339.out; subst eo13; obtain ⟨Ao14, co14, eo14⟩ := Kd.R_slice HO341.out; subst eo14) | (go_at_call 16; (with_reducible refine (route_Path.calls k _ _ t335 _ _ t336 t337 t342 t343 t344 t345 _ ?side1 ?side2 ?side3 ?side4 A9.out).mono ?_); (case side1 => repeat (first | exact (Kd.R_reads' HO339.out).2.2 | (with_reducible refine Kd.C_alloc ?_ _) | (with_reducible refine Kd.C_drewN ?_ _) | (with_reducible refine Kd.C_drew ?_))); (case side2 => exact (Kd.R_reads' HO339.out).2.1); (case side3 => repeat (first | exact (Kd.R_reads' HO341.out).2.2 | (with_reducible refine Kd.C_alloc ?_ _) | (with_reducible refine Kd.C_drewN ?_ _) | (with_reducible refine Kd.C_drew ?_))); (case side4 => exact (Kd.R_reads' HO341.out).2.1); rintro e w15 ⟨v346, rfl, ho0, hb⟩; have n0_ := Aside0.mk (Kd.R_below (by (with_reducible repeat (first | apply Kd.R_alloc | apply Kd.R_drewN | apply Kd.R_drew)); exact HO339.out) hb); have n1_ := Aside0.mk (Kd.R_below (by (with_reducible repeat (first | apply Kd.R_alloc | apply Kd.R_drewN | apply Kd.R_drew)); exact HO341.out) hb); have n2_ := Aside0.mk (Kd.R_lower ho0 (below_size (by repeat (first | (with_reducible first | exact HB.out | apply below_alloc | apply pw_below_drewN | apply below_drew1) | exact HB.out)))); have n3_ := Aside0.mk (below_step (by repeat (first | (with_reducible first | exact HB.out | apply below_alloc | apply pw_below_drewN | apply below_drew1) | exact HB.out)) hb); clear HO339; clear HO341; clear HB; have HO339 := n0_; have HO341 := n1_; have HO347 := n2_; have HB := n3_; clear n0_ n1_ n2_ n3_; (try clear hb); (try clear hb2); (try clear hk); (try clear hi); (try clear ho0))))
    (try simp only [Act.put, List.setIfInBounds_toArray, List.set_cons_zero, List.set_cons_succ])
    go_cut [55] (fun v55 wc => ∃ (kq : Nat) (x55_9 : Bool), v55 = .bool x55_9 ∧ Aside0 (dialtonelaw24_RouteEnds.j0 kq true t336 t337 t342 t343 t344 t345 x55_9 = some r) ∧ Aside0 (kq ≤ k) ∧ Aside0 (Kd.R (Kd.int .i64) 3 wc w.heap.size (fun _ => True) (.slice Ao14 t336.length co14) t336) ∧ Aside0 (Kd.R k40 40 wc w.heap.size (fun _ => True) v346 t343) ∧ Aside0 (Below w.heap.size w wc))
    case first =>
      have H := HC10.out
      clear HC10
      replace H := Option.bind_eq_some_iff.mp H
      obtain ⟨t348, A160, H⟩ := H
      replace H : (if t348 = true then (if 0 ≤ t342 then (if t342 < (t336.length : Int) then (dialtonelaw24_RouteEnds.j0 k true t336 t337 t342 t343 t344 t345 ((t345 == 0) != (decide ((rd t336 t342) ≥ 0)))) else (none)) else (none)) else (dialtonelaw24_RouteEnds.j0 k true t336 t337 t342 t343 t344 t345 true)) = some r := H
      have A16 := Aside0.mk A160
      clear A160
      by_cases c17 : t348 = true
      · subst c17
        have H1 : (if 0 ≤ t342 then (if t342 < (t336.length : Int) then (dialtonelaw24_RouteEnds.j0 k true t336 t337 t342 t343 t344 t345 ((t345 == 0) != (decide ((rd t336 t342) ≥ 0)))) else (none)) else (none)) = some r := by rw [if_pos rfl] at H; exact H
        clear H
        have H := H1
        clear H1
        by_cases c18 : 0 ≤ t342
        · rw [if_pos c18] at H
          have c18b0 : decide (0 ≤ t342) = true := decide_eq_true c18
          clear c18
          (first | rw [c18b0] | (simp only [i64_w, i32_w]; rw [c18b0]) | rw [c18b1] | skip)
          by_cases c19 : t342 < (t336.length : Int)
          · rw [if_pos c19] at H
            have c19b0 : decide (t342 < (t336.length : Int)) = true := decide_eq_true c19
            clear c19
            have H' := Aside0.mk H
            clear H
            go_wp2_with (first | (go_at_call 14; (with_reducible refine (route_Valid.calls _ _ t335 _ _ t336 t337 true _ ?side1 ?side2 ?side3 ?side4 A16.out).mono ?_); (case side1 => repeat (first | exact (Kd.R_reads' HO339.out).2.2 | (with_reducible refine Kd.C_alloc ?_ _) | (with_reducible refine Kd.C_drewN ?_ _) | (with_reducible refine Kd.C_drew ?_))); (case side2 => exact (Kd.R_reads' HO339.out).2.1); (case side3 => repeat (first | exact (Kd.R_reads' HO341.out).2.2 | (with_reducible refine Kd.C_alloc ?_ _) | (with_reducible refine Kd.C_drewN ?_ _) | (with_reducible refine Kd.C_drew ?_))); (case side4 => exact (Kd.R_reads' HO341.out).2.1); rintro e w20 ⟨rfl, hb⟩; have n0_ := Aside0.mk (Kd.R_below (by (with_reducible repeat (first | apply Kd.R_alloc | apply Kd.R_drewN | apply Kd.R_drew)); exact HO339.out) hb); have n1_ := Aside0.mk (Kd.R_below (by (with_reducible repeat (first | apply Kd.R_alloc | apply Kd.R_drewN | apply Kd.R_drew)); exact HO341.out) hb); have n2_ := Aside0.mk (Kd.R_below (by (with_reducible repeat (first | apply Kd.R_alloc | apply Kd.R_drewN | apply Kd.R_drew)); exact HO347.out) hb); have n3_ := Aside0.mk (below_step (by repeat (first | (with_reducible first | exact HB.out | apply below_alloc | apply pw_below_drewN | apply below_drew1) | exact HB.out)) hb); clear HO339; clear HO341; clear HO347; clear HB; have HO339 := n0_; have HO341 := n1_; have HO347 := n2_; have HB := n3_; clear n0_ n1_ n2_ n3_; (try clear hb); (try clear hb2); (try clear hk); (try clear hi); have p349 : 0 ≤ (t342 : Int) := of_decide_eq_true (by first | (with_reducible assumption) | assumption); have q349 : t342 < (t336.length : Int) := of_decide_eq_true (by first | (with_reducible assumption) | assumption); obtain ⟨ad349, e349, hx349_0⟩ := Kd.at_int (Kd.R_reads' HO341.out).2.2 t342 p349 q349; cases e349; replace p349 := eq_true p349; replace q349 := eq_true q349))
            repeat (go_quiet (first | (go_at_call 14; (with_reducible refine (route_Valid.calls _ _ t335 _ _ t336 t337 true _ ?side1 ?side2 ?side3 ?side4 A16.out).mono ?_); (case side1 => repeat (first | exact (Kd.R_reads' HO339.out).2.2 | (with_reducible refine Kd.C_alloc ?_ _) | (with_reducible refine Kd.C_drewN ?_ _) | (with_reducible refine Kd.C_drew ?_))); (case side2 => exact (Kd.R_reads' HO339.out).2.1); (case side3 => repeat (first | exact (Kd.R_reads' HO341.out).2.2 | (with_reducible refine Kd.C_alloc ?_ _) | (with_reducible refine Kd.C_drewN ?_ _) | (with_reducible refine Kd.C_drew ?_))); (case side4 => exact (Kd.R_reads' HO341.out).2.1); rintro e w20 ⟨rfl, hb⟩; have n0_ := Aside0.mk (Kd.R_below (by (with_reducible repeat (first | apply Kd.R_alloc | apply Kd.R_drewN | apply Kd.R_drew)); exact HO339.out) hb); have n1_ := Aside0.mk (Kd.R_below (by (with_reducible repeat (first | apply Kd.R_alloc | apply Kd.R_drewN | apply Kd.R_drew)); exact HO341.out) hb); have n2_ := Aside0.mk (Kd.R_below (by (with_reducible repeat (first | apply Kd.R_alloc | apply Kd.R_drewN | apply Kd.R_drew)); exact HO347.out) hb); have n3_ := Aside0.mk (below_step (by repeat (first | (with_reducible first | exact HB.out | apply below_alloc | apply pw_below_drewN | apply below_drew1) | exact HB.out)) hb); clear HO339; clear HO341; clear HO347; clear HB; have HO339 := n0_; have HO341 := n1_; have HO347 := n2_; have HB := n3_; clear n0_ n1_ n2_ n3_; (try clear hb); (try clear hb2); (try clear hk); (try clear hi); have p349 : 0 ≤ (t342 : Int) := of_decide_eq_true (by first | (with_reducible assumption) | assumption); have q349 : t342 < (t336.length : Int) := of_decide_eq_true (by first | (with_reducible assumption) | assumption); obtain ⟨ad349, e349, hx349_0⟩ := Kd.at_int (Kd.R_reads' HO341.out).2.2 t342 p349 q349; cases e349; replace p349 := eq_true p349; replace q349 := eq_true q349)); try go_wp2_with (first | (go_at_call 14; (with_reducible refine (route_Valid.calls _ _ t335 _ _ t336 t337 true _ ?side1 ?side2 ?side3 ?side4 A16.out).mono ?_); (case side1 => repeat (first | exact (Kd.R_reads' HO339.out).2.2 | (with_reducible refine Kd.C_alloc ?_ _) | (with_reducible refine Kd.C_drewN ?_ _) | (with_reducible refine Kd.C_drew ?_))); (case side2 => exact (Kd.R_reads' HO339.out).2.1); (case side3 => repeat (first | exact (Kd.R_reads' HO341.out).2.2 | (with_reducible refine Kd.C_alloc ?_ _) | (with_reducible refine Kd.C_drewN ?_ _) | (with_reducible refine Kd.C_drew ?_))); (case side4 => exact (Kd.R_reads' HO341.out).2.1); rintro e w20 ⟨rfl, hb⟩; have n0_ := Aside0.mk (Kd.R_below (by (with_reducible repeat (first | apply Kd.R_alloc | apply Kd.R_drewN | apply Kd.R_drew)); exact HO339.out) hb); have n1_ := Aside0.mk (Kd.R_below (by (with_reducible repeat (first | apply Kd.R_alloc | apply Kd.R_drewN | apply Kd.R_drew)); exact HO341.out) hb); have n2_ := Aside0.mk (Kd.R_below (by (with_reducible repeat (first | apply Kd.R_alloc | apply Kd.R_drewN | apply Kd.R_drew)); exact HO347.out) hb); have n3_ := Aside0.mk (below_step (by repeat (first | (with_reducible first | exact HB.out | apply below_alloc | apply pw_below_drewN | apply below_drew1) | exact HB.out)) hb); clear HO339; clear HO341; clear HO347; clear HB; have HO339 := n0_; have HO341 := n1_; have HO347 := n2_; have HB := n3_; clear n0_ n1_ n2_ n3_; (try clear hb); (try clear hb2); (try clear hk); (try clear hi); have p349 : 0 ≤ (t342 : Int) := of_decide_eq_true (by first | (with_reducible assumption) | assumption); have q349 : t342 < (t336.length : Int) := of_decide_eq_true (by first | (with_reducible assumption) | assumption); obtain ⟨ad349, e349, hx349_0⟩ := Kd.at_int (Kd.R_reads' HO341.out).2.2 t342 p349 q349; cases e349; replace p349 := eq_true p349; replace q349 := eq_true q349)))
            go_meet
            case rel => exact ⟨_, (((t345 == 0) != (decide ((rd t336 t342) ≥ 0)))), (by first | rfl | (simp; done) | (simp [*]; done)), H', ⟨by first | omega | exact Nat.le_refl _⟩, ⟨by (with_reducible repeat (first | apply Kd.R_alloc | apply Kd.R_drewN | apply Kd.R_drew)); exact Kd.R_mono HO341.out (fun _ hk => trivial)⟩, ⟨by (with_reducible repeat (first | apply Kd.R_alloc | apply Kd.R_drewN | apply Kd.R_drew)); exact HO347.out⟩, ⟨by repeat (first | (with_reducible first | exact HB.out | apply below_alloc | apply pw_below_drewN | apply below_drew1) | exact HB.out)⟩⟩
          · rw [if_neg c19] at H
            exact absurd H (by simp)
        · rw [if_neg c18] at H
          exact absurd H (by simp)
      · replace c17 := Bool.eq_false_iff.mpr c17
        subst c17
        have H1 : (dialtonelaw24_RouteEnds.j0 k true t336 t337 t342 t343 t344 t345 true) = some r := by rw [if_neg (show ¬ (false = true) by decide)] at H; exact H
        clear H
        have H := H1
        clear H1
        have H' := Aside0.mk H
        clear H
        go_wp2_with (first | (go_at_call 14; (with_reducible refine (route_Valid.calls _ _ t335 _ _ t336 t337 false _ ?side1 ?side2 ?side3 ?side4 A16.out).mono ?_); (case side1 => repeat (first | exact (Kd.R_reads' HO339.out).2.2 | (with_reducible refine Kd.C_alloc ?_ _) | (with_reducible refine Kd.C_drewN ?_ _) | (with_reducible refine Kd.C_drew ?_))); (case side2 => exact (Kd.R_reads' HO339.out).2.1); (case side3 => repeat (first | exact (Kd.R_reads' HO341.out).2.2 | (with_reducible refine Kd.C_alloc ?_ _) | (with_reducible refine Kd.C_drewN ?_ _) | (with_reducible refine Kd.C_drew ?_))); (case side4 => exact (Kd.R_reads' HO341.out).2.1); rintro e w21 ⟨rfl, hb⟩; have n0_ := Aside0.mk (Kd.R_below (by (with_reducible repeat (first | apply Kd.R_alloc | apply Kd.R_drewN | apply Kd.R_drew)); exact HO339.out) hb); have n1_ := Aside0.mk (Kd.R_below (by (with_reducible repeat (first | apply Kd.R_alloc | apply Kd.R_drewN | apply Kd.R_drew)); exact HO341.out) hb); have n2_ := Aside0.mk (Kd.R_below (by (with_reducible repeat (first | apply Kd.R_alloc | apply Kd.R_drewN | apply Kd.R_drew)); exact HO347.out) hb); have n3_ := Aside0.mk (below_step (by repeat (first | (with_reducible first | exact HB.out | apply below_alloc | apply pw_below_drewN | apply below_drew1) | exact HB.out)) hb); clear HO339; clear HO341; clear HO347; clear HB; have HO339 := n0_; have HO341 := n1_; have HO347 := n2_; have HB := n3_; clear n0_ n1_ n2_ n3_; (try clear hb); (try clear hb2); (try clear hk); (try clear hi)))
        repeat (go_quiet (first | (go_at_call 14; (with_reducible refine (route_Valid.calls _ _ t335 _ _ t336 t337 false _ ?side1 ?side2 ?side3 ?side4 A16.out).mono ?_); (case side1 => repeat (first | exact (Kd.R_reads' HO339.out).2.2 | (with_reducible refine Kd.C_alloc ?_ _) | (with_reducible refine Kd.C_drewN ?_ _) | (with_reducible refine Kd.C_drew ?_))); (case side2 => exact (Kd.R_reads' HO339.out).2.1); (case side3 => repeat (first | exact (Kd.R_reads' HO341.out).2.2 | (with_reducible refine Kd.C_alloc ?_ _) | (with_reducible refine Kd.C_drewN ?_ _) | (with_reducible refine Kd.C_drew ?_))); (case side4 => exact (Kd.R_reads' HO341.out).2.1); rintro e w21 ⟨rfl, hb⟩; have n0_ := Aside0.mk (Kd.R_below (by (with_reducible repeat (first | apply Kd.R_alloc | apply Kd.R_drewN | apply Kd.R_drew)); exact HO339.out) hb); have n1_ := Aside0.mk (Kd.R_below (by (with_reducible repeat (first | apply Kd.R_alloc | apply Kd.R_drewN | apply Kd.R_drew)); exact HO341.out) hb); have n2_ := Aside0.mk (Kd.R_below (by (with_reducible repeat (first | apply Kd.R_alloc | apply Kd.R_drewN | apply Kd.R_drew)); exact HO347.out) hb); have n3_ := Aside0.mk (below_step (by repeat (first | (with_reducible first | exact HB.out | apply below_alloc | apply pw_below_drewN | apply below_drew1) | exact HB.out)) hb); clear HO339; clear HO341; clear HO347; clear HB; have HO339 := n0_; have HO341 := n1_; have HO347 := n2_; have HB := n3_; clear n0_ n1_ n2_ n3_; (try clear hb); (try clear hb2); (try clear hk); (try clear hi))); try go_wp2_with (first | (go_at_call 14; (with_reducible refine (route_Valid.calls _ _ t335 _ _ t336 t337 false _ ?side1 ?side2 ?side3 ?side4 A16.out).mono ?_); (case side1 => repeat (first | exact (Kd.R_reads' HO339.out).2.2 | (with_reducible refine Kd.C_alloc ?_ _) | (with_reducible refine Kd.C_drewN ?_ _) | (with_reducible refine Kd.C_drew ?_))); (case side2 => exact (Kd.R_reads' HO339.out).2.1); (case side3 => repeat (first | exact (Kd.R_reads' HO341.out).2.2 | (with_reducible refine Kd.C_alloc ?_ _) | (with_reducible refine Kd.C_drewN ?_ _) | (with_reducible refine Kd.C_drew ?_))); (case side4 => exact (Kd.R_reads' HO341.out).2.1); rintro e w21 ⟨rfl, hb⟩; have n0_ := Aside0.mk (Kd.R_below (by (with_reducible repeat (first | apply Kd.R_alloc | apply Kd.R_drewN | apply Kd.R_drew)); exact HO339.out) hb); have n1_ := Aside0.mk (Kd.R_below (by (with_reducible repeat (first | apply Kd.R_alloc | apply Kd.R_drewN | apply Kd.R_drew)); exact HO341.out) hb); have n2_ := Aside0.mk (Kd.R_below (by (with_reducible repeat (first | apply Kd.R_alloc | apply Kd.R_drewN | apply Kd.R_drew)); exact HO347.out) hb); have n3_ := Aside0.mk (below_step (by repeat (first | (with_reducible first | exact HB.out | apply below_alloc | apply pw_below_drewN | apply below_drew1) | exact HB.out)) hb); clear HO339; clear HO341; clear HO347; clear HB; have HO339 := n0_; have HO341 := n1_; have HO347 := n2_; have HB := n3_; clear n0_ n1_ n2_ n3_; (try clear hb); (try clear hb2); (try clear hk); (try clear hi))))
        go_meet
        case rel => exact ⟨_, (true), (by first | rfl | (simp; done) | (simp [*]; done)), H', ⟨by first | omega | exact Nat.le_refl _⟩, ⟨by (with_reducible repeat (first | apply Kd.R_alloc | apply Kd.R_drewN | apply Kd.R_drew)); exact Kd.R_mono HO341.out (fun _ hk => trivial)⟩, ⟨by (with_reducible repeat (first | apply Kd.R_alloc | apply Kd.R_drewN | apply Kd.R_drew)); exact HO347.out⟩, ⟨by repeat (first | (with_reducible first | exact HB.out | apply below_alloc | apply pw_below_drewN | apply below_drew1) | exact HB.out)⟩⟩
    case rest =>
      clear HC10
      try clear c1
      try clear p2
      try clear p3
      try clear q3
      try clear hx3
      try clear c4
      try clear c6
      try clear c17
      try clear c18
      try clear c18b0
      try clear c18b1
      try clear c19
      try clear c19b0
      try clear hx349_0
      try clear p349
      try clear q349
      obtain ⟨kq, x55_9, rfl, HA, HJ9, HO_11, HO_14, HB⟩ := hcut
      cases kq with
      | zero => exact absurd HA.out (by simp [dialtonelaw24_RouteEnds.j0])
      | succ kj9 =>
        have H := HA.out
        clear HA
        simp only [dialtonelaw24_RouteEnds.j0] at H
        by_cases c22 : x55_9 = true
        · subst c22
          have H1 : (none) = some r := by rw [if_pos rfl] at H; exact H
          clear H
          have H := H1
          clear H1
          exact absurd H (by simp)
        · replace c22 := Bool.eq_false_iff.mpr c22
          subst c22
          have H1 : (if t345 = 0 then (if (t343.length : Int) < 1 then (dialtonelaw24_RouteEnds.j1 kj9 true t343 true) else (if (t343.length : Int) > (wrap64 (t337 + 2)) then (dialtonelaw24_RouteEnds.j1 kj9 true t343 true) else (if 0 < (t343.length : Int) then (if ((rd_T40 t343 0).f0) = t342 then (if 0 ≤ t342 then (if t342 < (t336.length : Int) then (if ((rd_T40 t343 0).f1) = (rd t336 t342) then (if t344 < 1 then (dialtonelaw24_RouteEnds.j1 kj9 true t343 true) else (dialtonelaw24_RouteEnds.j1 kj9 true t343 (decide (t344 > 3)))) else (dialtonelaw24_RouteEnds.j1 kj9 true t343 true)) else (none)) else (none)) else (dialtonelaw24_RouteEnds.j1 kj9 true t343 true)) else (none)))) else (if t345 = 240 then (if (t343.length : Int) = 0 then (some (t344 == 0)) else (none)) else (none))) = some r := by rw [if_neg (show ¬ (false = true) by decide)] at H; exact H
          clear H
          have H := H1
          clear H1
          by_cases c23 : t345 = 0
          · rw [if_pos c23] at H
            have c23b0 : (t345 == 0) = true := beq_iff_eq.mpr c23
            have c23b1 : (t345 != 0) = false := bne_eq_false_iff_eq.mpr c23
            clear c23
            have HC24 := Aside0.mk H
            clear H
            go_upto_region 11 with (fail)
            repeat (go_quiet (fail); go_upto_region 11 with (fail))
            go_cut [105] (fun v105 wc => ∃ (kq : Nat) (x105_23 : Bool), v105 = .bool x105_23 ∧ Aside0 (dialtonelaw24_RouteEnds.j1 kq true t343 x105_23 = some r) ∧ Aside0 (kq ≤ kj9) ∧ Aside0 (Kd.R k40 40 wc w.heap.size (fun _ => True) v346 t343) ∧ Aside0 (Below w.heap.size w wc))
            case first =>
              have H := HC24.out
              clear HC24
              by_cases c25 : (t343.length : Int) < 1
              · rw [if_pos c25] at H
                have c25b0 : decide ((t343.length : Int) < 1) = true := decide_eq_true c25
                have c25b1 : decide (t343.length < 1) = true := decide_eq_true (by omega)
                clear c25
                (first | rw [c25b0] | (simp only [i64_w, i32_w]; rw [c25b0]) | rw [c25b1] | skip)
                have H' := Aside0.mk H
                clear H
                obtain ⟨Ao26, co26, eo26⟩ := Kd.R_slice HO_14.out
                subst eo26
                go_wp2
                repeat (go_quiet (fail); try go_wp2)
                go_meet
                case rel => exact ⟨_, (true), (by first | rfl | (simp; done) | (simp [*]; done)), H', ⟨by have := HJ9.out; first | omega | exact Nat.le_refl _⟩, ⟨by (with_reducible repeat (first | apply Kd.R_alloc | apply Kd.R_drewN | apply Kd.R_drew)); exact HO_14.out⟩, ⟨by repeat (first | (with_reducible first | exact HB.out | apply below_alloc | apply pw_below_drewN | apply below_drew1) | exact HB.out)⟩⟩
              · rw [if_neg c25] at H
                have c25b0 : decide ((t343.length : Int) < 1) = false := decide_eq_false c25
                have c25b1 : decide (t343.length < 1) = false := decide_eq_false (by omega)
                clear c25
                (first | rw [c25b0] | (simp only [i64_w, i32_w]; rw [c25b0]) | rw [c25b1] | skip)
                by_cases c27 : (t343.length : Int) > (wrap64 (t337 + 2))
                · rw [if_pos c27] at H
                  have c27b0 : decide ((wrap64 (t337 + 2)) < (t343.length : Int)) = true := decide_eq_true c27
                  clear c27
                  have H' := Aside0.mk H
                  clear H
                  obtain ⟨Ao28, co28, eo28⟩ := Kd.R_slice HO_14.out
                  subst eo28
                  go_wp2
                  repeat (go_quiet (fail); try go_wp2)
                  go_meet
                  case rel => exact ⟨_, (true), (by first | rfl | (simp; done) | (simp [*]; done)), H', ⟨by have := HJ9.out; first | omega | exact Nat.le_refl _⟩, ⟨by (with_reducible repeat (first | apply Kd.R_alloc | apply Kd.R_drewN | apply Kd.R_drew)); exact HO_14.out⟩, ⟨by repeat (first | (with_reducible first | exact HB.out | apply below_alloc | apply pw_below_drewN | apply below_drew1) | exact HB.out)⟩⟩
                · rw [if_neg c27] at H
                  have c27b0 : decide ((wrap64 (t337 + 2)) < (t343.length : Int)) = false := decide_eq_false c27
                  clear c27
                  by_cases c29 : 0 < (t343.length : Int)
                  · rw [if_pos c29] at H
                    have c29b0 : decide (0 < (t343.length : Int)) = true := decide_eq_true c29
                    have c29b1 : decide (0 < t343.length) = true := decide_eq_true (by omega)
                    clear c29
                    by_cases c30 : ((rd_T40 t343 0).f0) = t342
                    · rw [if_pos c30] at H
                      have c30b0 : (((rd_T40 t343 0).f0) == t342) = true := beq_iff_eq.mpr c30
                      have c30b1 : (((rd_T40 t343 0).f0) != t342) = false := bne_eq_false_iff_eq.mpr c30
                      clear c30
                      by_cases c31 : 0 ≤ t342
                      · rw [if_pos c31] at H
                        have c31b0 : decide (0 ≤ t342) = true := decide_eq_true c31
                        clear c31
                        by_cases c32 : t342 < (t336.length : Int)
                        · rw [if_pos c32] at H
                          have c32b0 : decide (t342 < (t336.length : Int)) = true := decide_eq_true c32
                          clear c32
                          by_cases c33 : ((rd_T40 t343 0).f1) = (rd t336 t342)
                          · rw [if_pos c33] at H
                            have c33b0 : (((rd_T40 t343 0).f1) == (rd t336 t342)) = true := beq_iff_eq.mpr c33
                            have c33b1 : (((rd_T40 t343 0).f1) != (rd t336 t342)) = false := bne_eq_false_iff_eq.mpr c33
                            clear c33
                            by_cases c34 : t344 < 1
                            · rw [if_pos c34] at H
                              have c34b0 : decide (t344 < 1) = true := decide_eq_true c34
                              clear c34
                              have H' := Aside0.mk H
                              clear H
                              obtain ⟨Ao35, co35, eo35⟩ := Kd.R_slice HO_14.out
                              subst eo35
                              have p350 : 0 ≤ (0 : Int) := (by omega)
                              have q350 : 0 < (t343.length : Int) := of_decide_eq_true (by first | (with_reducible assumption) | assumption)
                              (try (obtain ⟨Ao_, co_, eo_⟩ := Kd.R_slice HO_14.out; cases eo_))
                              obtain ⟨ad350, e350, hx350_0, hx350_1⟩ := at_T40 (Kd.R_reads' HO_14.out).2.2 0 p350 q350
                              cases e350
                              have qi350 : (0 < t343.length) = True := eq_true (by omega)
                              (try rw [show ((0 : Int)).toNat = 0 from rfl] at hx350_0)
                              (try rw [show 0 * 2 = 0 from rfl] at hx350_0)
                              (try rw [Addr.add_zero'] at hx350_0)
                              (try rw [show ((0 : Int)).toNat = 0 from rfl] at hx350_1)
                              (try rw [show 0 * 2 = 0 from rfl] at hx350_1)
                              (try rw [Addr.add_zero'] at hx350_1)
                              replace p350 := eq_true p350
                              replace q350 := eq_true q350
                              have p351 : 0 ≤ (0 : Int) := (by omega)
                              have q351 : 0 < (t343.length : Int) := of_decide_eq_true (by first | (with_reducible assumption) | assumption)
                              (try (obtain ⟨Ao_, co_, eo_⟩ := Kd.R_slice HO_14.out; cases eo_))
                              obtain ⟨ad351, e351, hx351_0, hx351_1⟩ := at_T40 (Kd.R_reads' HO_14.out).2.2 0 p351 q351
                              obtain rfl : ad350 = ad351 := (by injection e351)
                              have qi351 : (0 < t343.length) = True := eq_true (by omega)
                              (try rw [show ((0 : Int)).toNat = 0 from rfl] at hx351_0)
                              (try rw [show 0 * 2 = 0 from rfl] at hx351_0)
                              (try rw [Addr.add_zero'] at hx351_0)
                              (try rw [show ((0 : Int)).toNat = 0 from rfl] at hx351_1)
                              (try rw [show 0 * 2 = 0 from rfl] at hx351_1)
                              (try rw [Addr.add_zero'] at hx351_1)
                              replace p351 := eq_true p351
                              replace q351 := eq_true q351
                              have p352 : 0 ≤ (t342 : Int) := of_decide_eq_true (by first | (with_reducible assumption) | assumption)
                              have q352 : t342 < (t336.length : Int) := of_decide_eq_true (by first | (with_reducible assumption) | assumption)
                              (try (obtain ⟨Ao_, co_, eo_⟩ := Kd.R_slice HO_11.out; cases eo_))
                              obtain ⟨ad352, e352, hx352_0⟩ := Kd.at_int (Kd.R_reads' HO_11.out).2.2 t342 p352 q352
                              cases e352
                              replace p352 := eq_true p352
                              replace q352 := eq_true q352
                              go_wp2
                              repeat (go_quiet (fail); try go_wp2)
                              go_meet
                              case rel => exact ⟨_, (true), (by first | rfl | (simp; done) | (simp [*]; done)), H', ⟨by have := HJ9.out; first | omega | exact Nat.le_refl _⟩, ⟨by (with_reducible repeat (first | apply Kd.R_alloc | apply Kd.R_drewN | apply Kd.R_drew)); exact HO_14.out⟩, ⟨by repeat (first | (with_reducible first | exact HB.out | apply below_alloc | apply pw_below_drewN | apply below_drew1) | exact HB.out)⟩⟩
                            · rw [if_neg c34] at H
                              have c34b0 : decide (t344 < 1) = false := decide_eq_false c34
                              clear c34
                              have H' := Aside0.mk H
                              clear H
                              obtain ⟨Ao36, co36, eo36⟩ := Kd.R_slice HO_14.out
                              subst eo36
                              have p350 : 0 ≤ (0 : Int) := (by omega)
                              have q350 : 0 < (t343.length : Int) := of_decide_eq_true (by first | (with_reducible assumption) | assumption)
                              (try (obtain ⟨Ao_, co_, eo_⟩ := Kd.R_slice HO_14.out; cases eo_))
                              obtain ⟨ad350, e350, hx350_0, hx350_1⟩ := at_T40 (Kd.R_reads' HO_14.out).2.2 0 p350 q350
                              cases e350
                              have qi350 : (0 < t343.length) = True := eq_true (by omega)
                              (try rw [show ((0 : Int)).toNat = 0 from rfl] at hx350_0)
                              (try rw [show 0 * 2 = 0 from rfl] at hx350_0)
                              (try rw [Addr.add_zero'] at hx350_0)
                              (try rw [show ((0 : Int)).toNat = 0 from rfl] at hx350_1)
                              (try rw [show 0 * 2 = 0 from rfl] at hx350_1)
                              (try rw [Addr.add_zero'] at hx350_1)
                              replace p350 := eq_true p350
                              replace q350 := eq_true q350
                              have p351 : 0 ≤ (0 : Int) := (by omega)
                              have q351 : 0 < (t343.length : Int) := of_decide_eq_true (by first | (with_reducible assumption) | assumption)
                              (try (obtain ⟨Ao_, co_, eo_⟩ := Kd.R_slice HO_14.out; cases eo_))
                              obtain ⟨ad351, e351, hx351_0, hx351_1⟩ := at_T40 (Kd.R_reads' HO_14.out).2.2 0 p351 q351
                              obtain rfl : ad350 = ad351 := (by injection e351)
                              have qi351 : (0 < t343.length) = True := eq_true (by omega)
                              (try rw [show ((0 : Int)).toNat = 0 from rfl] at hx351_0)
                              (try rw [show 0 * 2 = 0 from rfl] at hx351_0)
                              (try rw [Addr.add_zero'] at hx351_0)
                              (try rw [show ((0 : Int)).toNat = 0 from rfl] at hx351_1)
                              (try rw [show 0 * 2 = 0 from rfl] at hx351_1)
                              (try rw [Addr.add_zero'] at hx351_1)
                              replace p351 := eq_true p351
                              replace q351 := eq_true q351
                              have p352 : 0 ≤ (t342 : Int) := of_decide_eq_true (by first | (with_reducible assumption) | assumption)
                              have q352 : t342 < (t336.length : Int) := of_decide_eq_true (by first | (with_reducible assumption) | assumption)
                              (try (obtain ⟨Ao_, co_, eo_⟩ := Kd.R_slice HO_11.out; cases eo_))
                              obtain ⟨ad352, e352, hx352_0⟩ := Kd.at_int (Kd.R_reads' HO_11.out).2.2 t342 p352 q352
                              cases e352
                              replace p352 := eq_true p352
                              replace q352 := eq_true q352
                              go_wp2
                              repeat (go_quiet (fail); try go_wp2)
                              go_meet
                              case rel => exact ⟨_, (decide (t344 > 3)), (by first | rfl | (simp; done) | (simp [*]; done)), H', ⟨by have := HJ9.out; first | omega | exact Nat.le_refl _⟩, ⟨by (with_reducible repeat (first | apply Kd.R_alloc | apply Kd.R_drewN | apply Kd.R_drew)); exact HO_14.out⟩, ⟨by repeat (first | (with_reducible first | exact HB.out | apply below_alloc | apply pw_below_drewN | apply below_drew1) | exact HB.out)⟩⟩
                          · rw [if_neg c33] at H
                            have c33b0 : (((rd_T40 t343 0).f1) == (rd t336 t342)) = false := beq_eq_false_iff_ne.mpr c33
                            have c33b1 : (((rd_T40 t343 0).f1) != (rd t336 t342)) = true := bne_iff_ne.mpr c33
                            have H' := Aside0.mk H
                            clear H
                            obtain ⟨Ao37, co37, eo37⟩ := Kd.R_slice HO_14.out
                            subst eo37
                            have p350 : 0 ≤ (0 : Int) := (by omega)
                            have q350 : 0 < (t343.length : Int) := of_decide_eq_true (by first | (with_reducible assumption) | assumption)
                            (try (obtain ⟨Ao_, co_, eo_⟩ := Kd.R_slice HO_14.out; cases eo_))
                            obtain ⟨ad350, e350, hx350_0, hx350_1⟩ := at_T40 (Kd.R_reads' HO_14.out).2.2 0 p350 q350
                            cases e350
                            have qi350 : (0 < t343.length) = True := eq_true (by omega)
                            (try rw [show ((0 : Int)).toNat = 0 from rfl] at hx350_0)
                            (try rw [show 0 * 2 = 0 from rfl] at hx350_0)
                            (try rw [Addr.add_zero'] at hx350_0)
                            (try rw [show ((0 : Int)).toNat = 0 from rfl] at hx350_1)
                            (try rw [show 0 * 2 = 0 from rfl] at hx350_1)
                            (try rw [Addr.add_zero'] at hx350_1)
                            replace p350 := eq_true p350
                            replace q350 := eq_true q350
                            have p351 : 0 ≤ (0 : Int) := (by omega)
                            have q351 : 0 < (t343.length : Int) := of_decide_eq_true (by first | (with_reducible assumption) | assumption)
                            (try (obtain ⟨Ao_, co_, eo_⟩ := Kd.R_slice HO_14.out; cases eo_))
                            obtain ⟨ad351, e351, hx351_0, hx351_1⟩ := at_T40 (Kd.R_reads' HO_14.out).2.2 0 p351 q351
                            obtain rfl : ad350 = ad351 := (by injection e351)
                            have qi351 : (0 < t343.length) = True := eq_true (by omega)
                            (try rw [show ((0 : Int)).toNat = 0 from rfl] at hx351_0)
                            (try rw [show 0 * 2 = 0 from rfl] at hx351_0)
                            (try rw [Addr.add_zero'] at hx351_0)
                            (try rw [show ((0 : Int)).toNat = 0 from rfl] at hx351_1)
                            (try rw [show 0 * 2 = 0 from rfl] at hx351_1)
                            (try rw [Addr.add_zero'] at hx351_1)
                            replace p351 := eq_true p351
                            replace q351 := eq_true q351
                            have p352 : 0 ≤ (t342 : Int) := of_decide_eq_true (by first | (with_reducible assumption) | assumption)
                            have q352 : t342 < (t336.length : Int) := of_decide_eq_true (by first | (with_reducible assumption) | assumption)
                            (try (obtain ⟨Ao_, co_, eo_⟩ := Kd.R_slice HO_11.out; cases eo_))
                            obtain ⟨ad352, e352, hx352_0⟩ := Kd.at_int (Kd.R_reads' HO_11.out).2.2 t342 p352 q352
                            cases e352
                            replace p352 := eq_true p352
                            replace q352 := eq_true q352
                            go_wp2
                            repeat (go_quiet (fail); try go_wp2)
                            go_meet
                            case rel => exact ⟨_, (true), (by first | rfl | (simp; done) | (simp [*]; done)), H', ⟨by have := HJ9.out; first | omega | exact Nat.le_refl _⟩, ⟨by (with_reducible repeat (first | apply Kd.R_alloc | apply Kd.R_drewN | apply Kd.R_drew)); exact HO_14.out⟩, ⟨by repeat (first | (with_reducible first | exact HB.out | apply below_alloc | apply pw_below_drewN | apply below_drew1) | exact HB.out)⟩⟩
                        · rw [if_neg c32] at H
                          exact absurd H (by simp)
                      · rw [if_neg c31] at H
                        exact absurd H (by simp)
                    · rw [if_neg c30] at H
                      have c30b0 : (((rd_T40 t343 0).f0) == t342) = false := beq_eq_false_iff_ne.mpr c30
                      have c30b1 : (((rd_T40 t343 0).f0) != t342) = true := bne_iff_ne.mpr c30
                      have H' := Aside0.mk H
                      clear H
                      obtain ⟨Ao38, co38, eo38⟩ := Kd.R_slice HO_14.out
                      subst eo38
                      have p350 : 0 ≤ (0 : Int) := (by omega)
                      have q350 : 0 < (t343.length : Int) := of_decide_eq_true (by first | (with_reducible assumption) | assumption)
                      (try (obtain ⟨Ao_, co_, eo_⟩ := Kd.R_slice HO_14.out; cases eo_))
                      obtain ⟨ad350, e350, hx350_0, hx350_1⟩ := at_T40 (Kd.R_reads' HO_14.out).2.2 0 p350 q350
                      cases e350
                      have qi350 : (0 < t343.length) = True := eq_true (by omega)
                      (try rw [show ((0 : Int)).toNat = 0 from rfl] at hx350_0)
                      (try rw [show 0 * 2 = 0 from rfl] at hx350_0)
                      (try rw [Addr.add_zero'] at hx350_0)
                      (try rw [show ((0 : Int)).toNat = 0 from rfl] at hx350_1)
                      (try rw [show 0 * 2 = 0 from rfl] at hx350_1)
                      (try rw [Addr.add_zero'] at hx350_1)
                      replace p350 := eq_true p350
                      replace q350 := eq_true q350
                      go_wp2
                      repeat (go_quiet (fail); try go_wp2)
                      go_meet
                      case rel => exact ⟨_, (true), (by first | rfl | (simp; done) | (simp [*]; done)), H', ⟨by have := HJ9.out; first | omega | exact Nat.le_refl _⟩, ⟨by (with_reducible repeat (first | apply Kd.R_alloc | apply Kd.R_drewN | apply Kd.R_drew)); exact HO_14.out⟩, ⟨by repeat (first | (with_reducible first | exact HB.out | apply below_alloc | apply pw_below_drewN | apply below_drew1) | exact HB.out)⟩⟩
                  · rw [if_neg c29] at H
                    exact absurd H (by simp)
            case rest =>
              clear HC24
              try clear c1
              try clear c2
              try clear p2
              try clear c3
              try clear p3
              try clear q3
              try clear hx3
              try clear qi3
              try clear c4
              try clear c6
              try clear p6
              try clear c17
              try clear c18
              try clear c18b0
              try clear c18b1
              try clear c19
              try clear c19b0
              try clear c22
              try clear c23
              try clear c23b0
              try clear c23b1
              try clear c25
              try clear c25b0
              try clear c25b1
              try clear c27
              try clear c27b0
              try clear c29
              try clear c29b0
              try clear c29b1
              try clear c30
              try clear c30b0
              try clear c30b1
              try clear c31
              try clear c31b0
              try clear c32
              try clear c32b0
              try clear c33
              try clear c33b0
              try clear c33b1
              try clear c34
              try clear c34b0
              try clear p34
              try clear q34
              try clear hx34
              try clear p35
              try clear q35
              try clear hx35
              try clear qi35
              try clear hx349_0
              try clear hx350_0
              try clear hx350_1
              try clear hx351_0
              try clear hx351_1
              try clear hx352_0
              try clear p2
              try clear p3
              try clear p349
              try clear p350
              try clear p351
              try clear p352
              try clear q3
              try clear q349
              try clear q350
              try clear q351
              try clear q352
              obtain ⟨kq, x105_23, rfl, HA, HJ23, HO_14, HB⟩ := hcut
              cases kq with
              | zero => exact absurd HA.out (by simp [dialtonelaw24_RouteEnds.j1])
              | succ kj23 =>
                have H := HA.out
                clear HA
                simp only [dialtonelaw24_RouteEnds.j1] at H
                by_cases c39 : x105_23 = true
                · subst c39
                  have H1 : (none) = some r := by rw [if_pos rfl] at H; exact H
                  clear H
                  have H := H1
                  clear H1
                  exact absurd H (by simp)
                · replace c39 := Bool.eq_false_iff.mpr c39
                  subst c39
                  have H1 : (dialtonelaw24_RouteEnds.l0 kj23 true t343 0) = some r := by rw [if_neg (show ¬ (false = true) by decide)] at H; exact H
                  clear H
                  have H := H1
                  clear H1
                  have H' := Aside0.mk H
                  clear H
                  go_wp2
                  repeat (go_quiet (fail); try go_wp2)
                  go_loopg [17] kj23 (fun kq v17 w' => ∃ (x17_3 : Int), v17 = .int .i64 x17_3 ∧ Aside0 (dialtonelaw24_RouteEnds.l0 kq true t343 x17_3 = some r) ∧ Aside0 (kq ≤ kj23) ∧ Aside0 (Kd.R k40 40 w' w.heap.size (fun _ => True) v346 t343) ∧ Aside0 (Below w.heap.size w w'))
                  case atStart => exact ⟨(0), (by first | rfl | (simp; done) | (simp [*]; done)), H', ⟨Nat.le_refl _⟩, ⟨by (with_reducible repeat (first | apply Kd.R_alloc | apply Kd.R_drewN | apply Kd.R_drew)); exact HO_14.out⟩, ⟨by repeat (first | (with_reducible first | exact HB.out | apply below_alloc | apply pw_below_drewN | apply below_drew1) | exact HB.out)⟩⟩
                  case round =>
                    clear H'
                    try clear c1
                    try clear c2
                    try clear p2
                    try clear c3
                    try clear p3
                    try clear q3
                    try clear hx3
                    try clear qi3
                    try clear c4
                    try clear c6
                    try clear p6
                    try clear c17
                    try clear c18
                    try clear c18b0
                    try clear c18b1
                    try clear c19
                    try clear c19b0
                    try clear c22
                    try clear c23
                    try clear c23b0
                    try clear c23b1
                    try clear c25
                    try clear c25b0
                    try clear c25b1
                    try clear c27
                    try clear c27b0
                    try clear c29
                    try clear c29b0
                    try clear c29b1
                    try clear c30
                    try clear c30b0
                    try clear c30b1
                    try clear c31
                    try clear c31b0
                    try clear c32
                    try clear c32b0
                    try clear c33
                    try clear c33b0
                    try clear c33b1
                    try clear c34
                    try clear c34b0
                    try clear p34
                    try clear q34
                    try clear hx34
                    try clear p35
                    try clear q35
                    try clear hx35
                    try clear qi35
                    try clear c39
                    try clear hx349_0
                    try clear hx350_0
                    try clear hx350_1
                    try clear hx351_0
                    try clear hx351_1
                    try clear hx352_0
                    try clear p2
                    try clear p3
                    try clear p34
                    try clear p349
                    try clear p35
                    try clear p350
                    try clear p351
                    try clear p352
                    try clear p6
                    try clear q3
                    try clear q34
                    try clear q349
                    try clear q35
                    try clear q350
                    try clear q351
                    try clear q352
                    obtain ⟨x17_3, rfl, HA, HK3, HO_14, HB⟩ := hrel
                    cases gk with
                    | zero => exact absurd HA.out (by simp [dialtonelaw24_RouteEnds.l0])
                    | succ k3 =>
                      have H := HA.out
                      clear HA
                      simp only [dialtonelaw24_RouteEnds.l0] at H
                      by_cases c40 : x17_3 < (t343.length : Int)
                      · rw [if_pos c40] at H
                        have c40b0 : decide (x17_3 < (t343.length : Int)) = true := decide_eq_true c40
                        clear c40
                        have HC41 := Aside0.mk H
                        clear H
                        obtain ⟨Ao42, co42, eo42⟩ := Kd.R_slice HO_14.out
                        subst eo42
                        go_upto_region 16 with (fail)
                        repeat (go_quiet (fail); go_upto_region 16 with (fail))
                        go_cut [148] (fun v148 wc => ∃ (kq : Nat) (x148_40 : Bool), v148 = .bool x148_40 ∧ Aside0 (dialtonelaw24_RouteEnds.j3 kq true t343 x17_3 x148_40 = some r) ∧ Aside0 (kq ≤ k3) ∧ Aside0 (Kd.R k40 40 wc w.heap.size (fun _ => True) (.slice Ao42 t343.length co42) t343) ∧ Aside0 (Below w.heap.size w wc))
                        case first =>
                          have H := HC41.out
                          clear HC41
                          by_cases c43 : x17_3 > 0
                          · rw [if_pos c43] at H
                            have c43b0 : decide (0 < x17_3) = true := decide_eq_true c43
                            clear c43
                            (first | rw [c43b0] | (simp only [i64_w, i32_w]; rw [c43b0]) | rw [c43b1] | skip)
                            by_cases c44 : 0 ≤ x17_3
                            · rw [if_pos c44] at H
                              have c44b0 : decide (0 ≤ x17_3) = true := decide_eq_true c44
                              clear c44
                              obtain ⟨ji45, hji45⟩ : ∃ j_ : Int, (wrap64 (x17_3 - 1)) = j_ := ⟨_, rfl⟩
                              replace H : (if 0 ≤ (ji45) then (if (ji45) < (t343.length : Int) then (if ((rd_T40 t343 x17_3).f1) < ((rd_T40 t343 (ji45)).f1) then (dialtonelaw24_RouteEnds.j3 k3 true t343 x17_3 true) else (if ((rd_T40 t343 x17_3).f1) = ((rd_T40 t343 (ji45)).f1) then (dialtonelaw24_RouteEnds.j3 k3 true t343 x17_3 (decide (x17_3 < (wrap64 ((t343.length : Int) - 1))))) else (dialtonelaw24_RouteEnds.j3 k3 true t343 x17_3 false))) else (none)) else (none)) = some r := by first | (rw [hji45] at H; exact H) | (simp only [hji45] at H ⊢; exact H)
                              have hji45w : (IntKind.i64.wrap (x17_3 - 1)) = ji45 := (i64_w _).trans hji45
                              by_cases c46 : 0 ≤ (ji45)
                              · rw [if_pos c46] at H
                                have c46b0 : decide (0 ≤ (ji45)) = true := decide_eq_true c46
                                clear c46
                                by_cases c47 : (ji45) < (t343.length : Int)
                                · rw [if_pos c47] at H
                                  have c47b0 : decide ((ji45) < (t343.length : Int)) = true := decide_eq_true c47
                                  clear c47
                                  by_cases c48 : ((rd_T40 t343 x17_3).f1) < ((rd_T40 t343 (ji45)).f1)
                                  · rw [if_pos c48] at H
                                    have c48b0 : decide (((rd_T40 t343 x17_3).f1) < ((rd_T40 t343 (ji45)).f1)) = true := decide_eq_true c48
                                    clear c48
                                    have H' := Aside0.mk H
                                    clear H
                                    have p353 : 0 ≤ (x17_3 : Int) := of_decide_eq_true (by first | (with_reducible assumption) | assumption)
                                    have q353 : x17_3 < (t343.length : Int) := of_decide_eq_true (by first | (with_reducible assumption) | assumption)
                                    (try (obtain ⟨Ao_, co_, eo_⟩ := Kd.R_slice HO_14.out; cases eo_))
                                    obtain ⟨ad353, e353, hx353_0, hx353_1⟩ := at_T40 (Kd.R_reads' HO_14.out).2.2 x17_3 p353 q353
                                    cases e353
                                    replace p353 := eq_true p353
                                    replace q353 := eq_true q353
                                    have p354 : 0 ≤ ((ji45) : Int) := of_decide_eq_true (by first | (with_reducible assumption) | assumption)
                                    have q354 : (ji45) < (t343.length : Int) := of_decide_eq_true (by first | (with_reducible assumption) | assumption)
                                    (try (obtain ⟨Ao_, co_, eo_⟩ := Kd.R_slice HO_14.out; cases eo_))
                                    obtain ⟨ad354, e354, hx354_0, hx354_1⟩ := at_T40 (Kd.R_reads' HO_14.out).2.2 (ji45) p354 q354
                                    obtain rfl : ad353 = ad354 := (by injection e354)
                                    replace p354 := eq_true p354
                                    replace q354 := eq_true q354
                                    go_wp2
                                    repeat (go_quiet (fail); try go_wp2)
                                    go_meet
                                    case rel => exact ⟨_, (true), (by first | rfl | (simp; done) | (simp [*]; done)), H', ⟨by have := HJ9.out; have := HJ23.out; have := HK3.out; first | omega | exact Nat.le_refl _⟩, ⟨by (with_reducible repeat (first | apply Kd.R_alloc | apply Kd.R_drewN | apply Kd.R_drew)); exact HO_14.out⟩, ⟨by repeat (first | (with_reducible first | exact HB.out | apply below_alloc | apply pw_below_drewN | apply below_drew1) | exact HB.out)⟩⟩
                                  · rw [if_neg c48] at H
                                    have c48b0 : decide (((rd_T40 t343 x17_3).f1) < ((rd_T40 t343 (ji45)).f1)) = false := decide_eq_false c48
                                    clear c48
                                    by_cases c49 : ((rd_T40 t343 x17_3).f1) = ((rd_T40 t343 (ji45)).f1)
                                    · rw [if_pos c49] at H
                                      have c49b0 : (((rd_T40 t343 x17_3).f1) == ((rd_T40 t343 (ji45)).f1)) = true := beq_iff_eq.mpr c49
                                      have c49b1 : (((rd_T40 t343 x17_3).f1) != ((rd_T40 t343 (ji45)).f1)) = false := bne_eq_false_iff_eq.mpr c49
                                      clear c49
                                      have H' := Aside0.mk H
                                      clear H
                                      have p353 : 0 ≤ (x17_3 : Int) := of_decide_eq_true (by first | (with_reducible assumption) | assumption)
                                      have q353 : x17_3 < (t343.length : Int) := of_decide_eq_true (by first | (with_reducible assumption) | assumption)
                                      (try (obtain ⟨Ao_, co_, eo_⟩ := Kd.R_slice HO_14.out; cases eo_))
                                      obtain ⟨ad353, e353, hx353_0, hx353_1⟩ := at_T40 (Kd.R_reads' HO_14.out).2.2 x17_3 p353 q353
                                      cases e353
                                      replace p353 := eq_true p353
                                      replace q353 := eq_true q353
                                      have p354 : 0 ≤ ((ji45) : Int) := of_decide_eq_true (by first | (with_reducible assumption) | assumption)
                                      have q354 : (ji45) < (t343.length : Int) := of_decide_eq_true (by first | (with_reducible assumption) | assumption)
                                      (try (obtain ⟨Ao_, co_, eo_⟩ := Kd.R_slice HO_14.out; cases eo_))
                                      obtain ⟨ad354, e354, hx354_0, hx354_1⟩ := at_T40 (Kd.R_reads' HO_14.out).2.2 (ji45) p354 q354
                                      obtain rfl : ad353 = ad354 := (by injection e354)
                                      replace p354 := eq_true p354
                                      replace q354 := eq_true q354
                                      have p355 : 0 ≤ (x17_3 : Int) := of_decide_eq_true (by first | (with_reducible assumption) | assumption)
                                      have q355 : x17_3 < (t343.length : Int) := of_decide_eq_true (by first | (with_reducible assumption) | assumption)
                                      (try (obtain ⟨Ao_, co_, eo_⟩ := Kd.R_slice HO_14.out; cases eo_))
                                      obtain ⟨ad355, e355, hx355_0, hx355_1⟩ := at_T40 (Kd.R_reads' HO_14.out).2.2 x17_3 p355 q355
                                      obtain rfl : ad353 = ad355 := (by injection e355)
                                      replace p355 := eq_true p355
                                      replace q355 := eq_true q355
                                      have p356 : 0 ≤ ((ji45) : Int) := of_decide_eq_true (by first | (with_reducible assumption) | assumption)
                                      have q356 : (ji45) < (t343.length : Int) := of_decide_eq_true (by first | (with_reducible assumption) | assumption)
                                      (try (obtain ⟨Ao_, co_, eo_⟩ := Kd.R_slice HO_14.out; cases eo_))
                                      obtain ⟨ad356, e356, hx356_0, hx356_1⟩ := at_T40 (Kd.R_reads' HO_14.out).2.2 (ji45) p356 q356
                                      obtain rfl : ad353 = ad356 := (by injection e356)
                                      replace p356 := eq_true p356
                                      replace q356 := eq_true q356
                                      go_wp2
                                      repeat (go_quiet (fail); try go_wp2)
                                      go_meet
                                      case rel => exact ⟨_, (decide (x17_3 < (wrap64 ((t343.length : Int) - 1)))), (by first | rfl | (simp; done) | (simp [*]; done)), H', ⟨by have := HJ9.out; have := HJ23.out; have := HK3.out; first | omega | exact Nat.le_refl _⟩, ⟨by (with_reducible repeat (first | apply Kd.R_alloc | apply Kd.R_drewN | apply Kd.R_drew)); exact HO_14.out⟩, ⟨by repeat (first | (with_reducible first | exact HB.out | apply below_alloc | apply pw_below_drewN | apply below_drew1) | exact HB.out)⟩⟩
                                    · rw [if_neg c49] at H
                                      have c49b0 : (((rd_T40 t343 x17_3).f1) == ((rd_T40 t343 (ji45)).f1)) = false := beq_eq_false_iff_ne.mpr c49
                                      have c49b1 : (((rd_T40 t343 x17_3).f1) != ((rd_T40 t343 (ji45)).f1)) = true := bne_iff_ne.mpr c49
                                      have H' := Aside0.mk H
                                      clear H
                                      have p353 : 0 ≤ (x17_3 : Int) := of_decide_eq_true (by first | (with_reducible assumption) | assumption)
                                      have q353 : x17_3 < (t343.length : Int) := of_decide_eq_true (by first | (with_reducible assumption) | assumption)
                                      (try (obtain ⟨Ao_, co_, eo_⟩ := Kd.R_slice HO_14.out; cases eo_))
                                      obtain ⟨ad353, e353, hx353_0, hx353_1⟩ := at_T40 (Kd.R_reads' HO_14.out).2.2 x17_3 p353 q353
                                      cases e353
                                      replace p353 := eq_true p353
                                      replace q353 := eq_true q353
                                      have p354 : 0 ≤ ((ji45) : Int) := of_decide_eq_true (by first | (with_reducible assumption) | assumption)
                                      have q354 : (ji45) < (t343.length : Int) := of_decide_eq_true (by first | (with_reducible assumption) | assumption)
                                      (try (obtain ⟨Ao_, co_, eo_⟩ := Kd.R_slice HO_14.out; cases eo_))
                                      obtain ⟨ad354, e354, hx354_0, hx354_1⟩ := at_T40 (Kd.R_reads' HO_14.out).2.2 (ji45) p354 q354
                                      obtain rfl : ad353 = ad354 := (by injection e354)
                                      replace p354 := eq_true p354
                                      replace q354 := eq_true q354
                                      have p355 : 0 ≤ (x17_3 : Int) := of_decide_eq_true (by first | (with_reducible assumption) | assumption)
                                      have q355 : x17_3 < (t343.length : Int) := of_decide_eq_true (by first | (with_reducible assumption) | assumption)
                                      (try (obtain ⟨Ao_, co_, eo_⟩ := Kd.R_slice HO_14.out; cases eo_))
                                      obtain ⟨ad355, e355, hx355_0, hx355_1⟩ := at_T40 (Kd.R_reads' HO_14.out).2.2 x17_3 p355 q355
                                      obtain rfl : ad353 = ad355 := (by injection e355)
                                      replace p355 := eq_true p355
                                      replace q355 := eq_true q355
                                      have p356 : 0 ≤ ((ji45) : Int) := of_decide_eq_true (by first | (with_reducible assumption) | assumption)
                                      have q356 : (ji45) < (t343.length : Int) := of_decide_eq_true (by first | (with_reducible assumption) | assumption)
                                      (try (obtain ⟨Ao_, co_, eo_⟩ := Kd.R_slice HO_14.out; cases eo_))
                                      obtain ⟨ad356, e356, hx356_0, hx356_1⟩ := at_T40 (Kd.R_reads' HO_14.out).2.2 (ji45) p356 q356
                                      obtain rfl : ad353 = ad356 := (by injection e356)
                                      replace p356 := eq_true p356
                                      replace q356 := eq_true q356
                                      go_wp2
                                      repeat (go_quiet (fail); try go_wp2)
                                      go_meet
                                      case rel => exact ⟨_, (false), (by first | rfl | (simp; done) | (simp [*]; done)), H', ⟨by have := HJ9.out; have := HJ23.out; have := HK3.out; first | omega | exact Nat.le_refl _⟩, ⟨by (with_reducible repeat (first | apply Kd.R_alloc | apply Kd.R_drewN | apply Kd.R_drew)); exact HO_14.out⟩, ⟨by repeat (first | (with_reducible first | exact HB.out | apply below_alloc | apply pw_below_drewN | apply below_drew1) | exact HB.out)⟩⟩
                                · rw [if_neg c47] at H
                                  exact absurd H (by simp)
                              · rw [if_neg c46] at H
                                exact absurd H (by simp)
                            · rw [if_neg c44] at H
                              exact absurd H (by simp)
                          · rw [if_neg c43] at H
                            have c43b0 : decide (0 < x17_3) = false := decide_eq_false c43
                            clear c43
                            (first | rw [c43b0] | (simp only [i64_w, i32_w]; rw [c43b0]) | rw [c43b1] | skip)
                            have H' := Aside0.mk H
                            clear H
                            go_wp2
                            repeat (go_quiet (fail); try go_wp2)
                            go_meet
                            case rel => exact ⟨_, (false), (by first | rfl | (simp; done) | (simp [*]; done)), H', ⟨by have := HJ9.out; have := HJ23.out; have := HK3.out; first | omega | exact Nat.le_refl _⟩, ⟨by (with_reducible repeat (first | apply Kd.R_alloc | apply Kd.R_drewN | apply Kd.R_drew)); exact HO_14.out⟩, ⟨by repeat (first | (with_reducible first | exact HB.out | apply below_alloc | apply pw_below_drewN | apply below_drew1) | exact HB.out)⟩⟩
                        case rest =>
                          clear HC41
                          try clear c1
                          try clear c2
                          try clear p2
                          try clear c3
                          try clear p3
                          try clear q3
                          try clear hx3
                          try clear qi3
                          try clear c4
                          try clear c6
                          try clear p6
                          try clear c17
                          try clear c18
                          try clear c18b0
                          try clear c18b1
                          try clear c19
                          try clear c19b0
                          try clear c22
                          try clear c23
                          try clear c23b0
                          try clear c23b1
                          try clear c25
                          try clear c25b0
                          try clear c25b1
                          try clear c27
                          try clear c27b0
                          try clear c29
                          try clear c29b0
                          try clear c29b1
                          try clear c30
                          try clear c30b0
                          try clear c30b1
                          try clear c31
                          try clear c31b0
                          try clear c32
                          try clear c32b0
                          try clear c33
                          try clear c33b0
                          try clear c33b1
                          try clear c34
                          try clear c34b0
                          try clear p34
                          try clear q34
                          try clear hx34
                          try clear p35
                          try clear q35
                          try clear hx35
                          try clear qi35
                          try clear c39
                          try clear c40
                          try clear c40b0
                          try clear c43
                          try clear c43b0
                          try clear c43b1
                          try clear c44
                          try clear c44b0
                          try clear c46
                          try clear c46b0
                          try clear c47
                          try clear c47b0
                          try clear c48
                          try clear c48b0
                          try clear c49
                          try clear c49b0
                          try clear c49b1
                          try clear hx349_0
                          try clear hx350_0
                          try clear hx350_1
                          try clear hx351_0
                          try clear hx351_1
                          try clear hx352_0
                          try clear hx353_0
                          try clear hx353_1
                          try clear hx354_0
                          try clear hx354_1
                          try clear hx355_0
                          try clear hx355_1
                          try clear hx356_0
                          try clear hx356_1
                          try clear p2
                          try clear p3
                          try clear p34
                          try clear p349
                          try clear p35
                          try clear p350
                          try clear p351
                          try clear p352
                          try clear p353
                          try clear p354
                          try clear p355
                          try clear p356
                          try clear p6
                          try clear q3
                          try clear q34
                          try clear q349
                          try clear q35
                          try clear q350
                          try clear q351
                          try clear q352
                          try clear q353
                          try clear q354
                          try clear q355
                          try clear q356
                          obtain ⟨kq, x148_40, rfl, HA, HJ40, HO_14, HB⟩ := hcut
                          cases kq with
                          | zero => exact absurd HA.out (by simp [dialtonelaw24_RouteEnds.j3])
                          | succ kj40 =>
                            have H := HA.out
                            clear HA
                            simp only [dialtonelaw24_RouteEnds.j3] at H
                            by_cases c50 : x148_40 = true
                            · subst c50
                              have H1 : (none) = some r := by rw [if_pos rfl] at H; exact H
                              clear H
                              have H := H1
                              clear H1
                              exact absurd H (by simp)
                            · replace c50 := Bool.eq_false_iff.mpr c50
                              subst c50
                              have H1 : (dialtonelaw24_RouteEnds.l1 kj40 true t343 x17_3 0) = some r := by rw [if_neg (show ¬ (false = true) by decide)] at H; exact H
                              clear H
                              have H := H1
                              clear H1
                              have H' := Aside0.mk H
                              clear H
                              go_wp2
                              repeat (go_quiet (fail); try go_wp2)
                              go_loopg [18] kj40 (fun kq v18 w' => ∃ (x18_5 : Int), v18 = .int .i64 x18_5 ∧ Aside0 (dialtonelaw24_RouteEnds.l1 kq true t343 x17_3 x18_5 = some r) ∧ Aside0 (kq ≤ kj40) ∧ Aside0 (Kd.R k40 40 w' w.heap.size (fun _ => True) (.slice Ao42 t343.length co42) t343) ∧ Aside0 (Below w.heap.size w w'))
                              case atStart => exact ⟨(0), (by first | rfl | (simp; done) | (simp [*]; done)), H', ⟨Nat.le_refl _⟩, ⟨by (with_reducible repeat (first | apply Kd.R_alloc | apply Kd.R_drewN | apply Kd.R_drew)); exact HO_14.out⟩, ⟨by repeat (first | (with_reducible first | exact HB.out | apply below_alloc | apply pw_below_drewN | apply below_drew1) | exact HB.out)⟩⟩
                              case round =>
                                clear H'
                                try clear c1
                                try clear c2
                                try clear p2
                                try clear c3
                                try clear p3
                                try clear q3
                                try clear hx3
                                try clear qi3
                                try clear c4
                                try clear c5
                                try clear c6
                                try clear p6
                                try clear c17
                                try clear c18
                                try clear c18b0
                                try clear c18b1
                                try clear c19
                                try clear c19b0
                                try clear c22
                                try clear c23
                                try clear c23b0
                                try clear c23b1
                                try clear c25
                                try clear c25b0
                                try clear c25b1
                                try clear c27
                                try clear c27b0
                                try clear c29
                                try clear c29b0
                                try clear c29b1
                                try clear c30
                                try clear c30b0
                                try clear c30b1
                                try clear c31
                                try clear c31b0
                                try clear c32
                                try clear c32b0
                                try clear c33
                                try clear c33b0
                                try clear c33b1
                                try clear c34
                                try clear c34b0
                                try clear p34
                                try clear q34
                                try clear hx34
                                try clear p35
                                try clear q35
                                try clear hx35
                                try clear qi35
                                try clear c39
                                try clear c40
                                try clear c40b0
                                try clear c43
                                try clear c43b0
                                try clear c43b1
                                try clear c44
                                try clear c44b0
                                try clear c46
                                try clear c46b0
                                try clear c47
                                try clear c47b0
                                try clear c48
                                try clear c48b0
                                try clear c49
                                try clear c49b0
                                try clear c49b1
                                try clear c50
                                try clear hx349_0
                                try clear hx350_0
                                try clear hx350_1
                                try clear hx351_0
                                try clear hx351_1
                                try clear hx352_0
                                try clear hx353_0
                                try clear hx353_1
                                try clear hx354_0
                                try clear hx354_1
                                try clear hx355_0
                                try clear hx355_1
                                try clear hx356_0
                                try clear hx356_1
                                try clear p2
                                try clear p3
                                try clear p34
                                try clear p349
                                try clear p35
                                try clear p350
                                try clear p351
                                try clear p352
                                try clear p353
                                try clear p354
                                try clear p355
                                try clear p356
                                try clear p6
                                try clear q3
                                try clear q34
                                try clear q349
                                try clear q35
                                try clear q350
                                try clear q351
                                try clear q352
                                try clear q353
                                try clear q354
                                try clear q355
                                try clear q356
                                obtain ⟨x18_5, rfl, HA, HK5, HO_14, HB⟩ := hrel
                                cases gk with
                                | zero => exact absurd HA.out (by simp [dialtonelaw24_RouteEnds.l1])
                                | succ k5 =>
                                  have H := HA.out
                                  clear HA
                                  simp only [dialtonelaw24_RouteEnds.l1] at H
                                  by_cases c51 : x18_5 < x17_3
                                  · rw [if_pos c51] at H
                                    have c51b0 : decide (x18_5 < x17_3) = true := decide_eq_true c51
                                    clear c51
                                    by_cases c52 : 0 ≤ x18_5
                                    · rw [if_pos c52] at H
                                      have c52b0 : decide (0 ≤ x18_5) = true := decide_eq_true c52
                                      clear c52
                                      by_cases c53 : x18_5 < (t343.length : Int)
                                      · rw [if_pos c53] at H
                                        have c53b0 : decide (x18_5 < (t343.length : Int)) = true := decide_eq_true c53
                                        clear c53
                                        by_cases c54 : 0 ≤ x17_3
                                        · rw [if_pos c54] at H
                                          have c54b0 : decide (0 ≤ x17_3) = true := decide_eq_true c54
                                          clear c54
                                          by_cases c55 : x17_3 < (t343.length : Int)
                                          · rw [if_pos c55] at H
                                            have c55b0 : decide (x17_3 < (t343.length : Int)) = true := decide_eq_true c55
                                            clear c55
                                            by_cases c56 : ((rd_T40 t343 x18_5).f0) = ((rd_T40 t343 x17_3).f0)
                                            · rw [if_pos c56] at H
                                              exact absurd H (by simp)
                                            · rw [if_neg c56] at H
                                              have c56b0 : (((rd_T40 t343 x18_5).f0) == ((rd_T40 t343 x17_3).f0)) = false := beq_eq_false_iff_ne.mpr c56
                                              have c56b1 : (((rd_T40 t343 x18_5).f0) != ((rd_T40 t343 x17_3).f0)) = true := bne_iff_ne.mpr c56
                                              have H' := Aside0.mk H
                                              clear H
                                              have p357 : 0 ≤ (x18_5 : Int) := of_decide_eq_true (by first | (with_reducible assumption) | assumption)
                                              have q357 : x18_5 < (t343.length : Int) := of_decide_eq_true (by first | (with_reducible assumption) | assumption)
                                              (try (obtain ⟨Ao_, co_, eo_⟩ := Kd.R_slice HO_14.out; cases eo_))
                                              obtain ⟨ad357, e357, hx357_0, hx357_1⟩ := at_T40 (Kd.R_reads' HO_14.out).2.2 x18_5 p357 q357
                                              cases e357
                                              replace p357 := eq_true p357
                                              replace q357 := eq_true q357
                                              have p358 : 0 ≤ (x17_3 : Int) := of_decide_eq_true (by first | (with_reducible assumption) | assumption)
                                              have q358 : x17_3 < (t343.length : Int) := of_decide_eq_true (by first | (with_reducible assumption) | assumption)
                                              (try (obtain ⟨Ao_, co_, eo_⟩ := Kd.R_slice HO_14.out; cases eo_))
                                              obtain ⟨ad358, e358, hx358_0, hx358_1⟩ := at_T40 (Kd.R_reads' HO_14.out).2.2 x17_3 p358 q358
                                              obtain rfl : ad357 = ad358 := (by injection e358)
                                              replace p358 := eq_true p358
                                              replace q358 := eq_true q358
                                              go_wp2
                                              repeat (go_quiet (fail); try go_wp2)
                                              go_roundg k5
                                              case measure => have := HJ9.out; have := HJ23.out; have := HK3.out; have := HJ40.out; have := HK5.out; omega
                                              case rel => exact ⟨(wrap64 (x18_5 + 1)), (by first | rfl | (simp; done) | (simp [*]; done)), H', ⟨by have := HJ9.out; have := HJ23.out; have := HK3.out; have := HJ40.out; have := HK5.out; omega⟩, ⟨by (with_reducible repeat (first | apply Kd.R_alloc | apply Kd.R_drewN | apply Kd.R_drew)); exact HO_14.out⟩, ⟨by repeat (first | (with_reducible first | exact HB.out | apply below_alloc | apply pw_below_drewN | apply below_drew1) | exact HB.out)⟩⟩
                                          · rw [if_neg c55] at H
                                            exact absurd H (by simp)
                                        · rw [if_neg c54] at H
                                          exact absurd H (by simp)
                                      · rw [if_neg c53] at H
                                        exact absurd H (by simp)
                                    · rw [if_neg c52] at H
                                      exact absurd H (by simp)
                                  · rw [if_neg c51] at H
                                    have c51b0 : decide (x18_5 < x17_3) = false := decide_eq_false c51
                                    clear c51
                                    have H' := Aside0.mk H
                                    clear H
                                    go_wp2
                                    repeat (go_quiet (fail); try go_wp2)
                                    go_roundg k5
                                    case measure => have := HJ9.out; have := HJ23.out; have := HK3.out; have := HJ40.out; have := HK5.out; omega
                                    case rel => exact ⟨(wrap64 (x17_3 + 1)), (by first | rfl | (simp; done) | (simp [*]; done)), H', ⟨by have := HJ9.out; have := HJ23.out; have := HK3.out; have := HJ40.out; have := HK5.out; omega⟩, ⟨by (with_reducible repeat (first | apply Kd.R_alloc | apply Kd.R_drewN | apply Kd.R_drew)); exact HO_14.out⟩, ⟨by repeat (first | (with_reducible first | exact HB.out | apply below_alloc | apply pw_below_drewN | apply below_drew1) | exact HB.out)⟩⟩
                      · rw [if_neg c40] at H
                        have c40b0 : decide (x17_3 < (t343.length : Int)) = false := decide_eq_false c40
                        clear c40
                        obtain rfl := Option.some.inj H
                        obtain ⟨Ao57, co57, eo57⟩ := Kd.R_slice HO_14.out
                        subst eo57
                        go_wp2
                        repeat (go_quiet (fail); try go_wp2)
                        go_ret
                        exact ⟨by first | rfl | (simp [errW_none, errW_some] <;> rfl) | (simp [*, errW_none, errW_some] <;> rfl), by repeat (first | (with_reducible first | exact HB.out | apply below_alloc | apply pw_below_drewN | apply below_drew1) | exact HB.out)⟩
          · rw [if_neg c23] at H
            have c23b0 : (t345 == 0) = false := beq_eq_false_iff_ne.mpr c23
            have c23b1 : (t345 != 0) = true := bne_iff_ne.mpr c23
            by_cases c58 : t345 = 240
            · rw [if_pos c58] at H
              have c58b0 : (t345 == 240) = true := beq_iff_eq.mpr c58
              have c58b1 : (t345 != 240) = false := bne_eq_false_iff_eq.mpr c58
              clear c58
              by_cases c59 : (t343.length : Int) = 0
              · rw [if_pos c59] at H
                have c59b0 : ((t343.length : Int) == 0) = true := beq_iff_eq.mpr c59
                have c59b1 : ((t343.length : Int) != 0) = false := bne_eq_false_iff_eq.mpr c59
                clear c59
                obtain rfl := Option.some.inj H
                obtain ⟨Ao60, co60, eo60⟩ := Kd.R_slice HO_14.out
                subst eo60
                go_wp2
                repeat (go_quiet (fail); try go_wp2)
                go_ret
                exact ⟨by first | rfl | (simp [errW_none, errW_some] <;> rfl) | (simp [*, errW_none, errW_some] <;> rfl), by repeat (first | (with_reducible first | exact HB.out | apply below_alloc | apply pw_below_drewN | apply below_drew1) | exact HB.out)⟩
              · rw [if_neg c59] at H
                exact absurd H (by simp)
            · rw [if_neg c58] at H
              exact absurd H (by simp)
  · replace c6 := Bool.eq_false_iff.mpr c6
    subst c6
    have H1 : (none) = some r := by rw [if_neg (show ¬ (false = true) by decide)] at H; exact H
    clear H
    have H := H1
    clear H1
    exact absurd H (by simp)

/-- THE ONE PURE STATEMENT of dialtonelaw24_RouteEnds: yours. -/
def dialtonelaw24_RouteEnds.Pure : Prop := ∀ (l0 : List Int) (l1 : List Int) (a2 : Int) (a3 : Int), l0.length ≤ maxLen → l0.length * 8 ≤ 140737488351232 → (∀ x ∈ l0, (Lit.int .i64 x).wf = true) → l1.length ≤ maxLen → l1.length * 8 ≤ 140737488351232 → (∀ x ∈ l1, (Lit.int .i64 x).wf = true) → (Lit.int .i64 a2).wf = true → (Lit.int .i64 a3).wf = true → ∃ k, dialtonelaw24_RouteEnds.f k l0 l1 a2 a3 = some true
theorem dialtonelaw24_RouteEnds.walk (P : dialtonelaw24_RouteEnds.Pure) (a0 : Option Addr) (len0 cap0 : Nat) (z0 : List Int) (a1 : Option Addr) (len1 cap1 : Nat) (z1 : List Int) (a2 : Int) (a3 : Int) (w : World) (w0 : (a0 = none ∧ len0 = 0 ∧ cap0 = 0 ∧ z0 = []) ∨ ∃ x, a0 = some x ∧ len0 ≤ cap0 ∧ cap0 ≤ maxLen ∧ z0.length = cap0 ∧ (∀ i, i < z0.length → w.cell? (x.add i) = some (.int .i64 (z0.getD i 0))) ∧ ∀ n ∈ z0, (Lit.int .i64 n).wf = true) (y0 : len0 * 8 ≤ 140737488351232) (w1 : (a1 = none ∧ len1 = 0 ∧ cap1 = 0 ∧ z1 = []) ∨ ∃ x, a1 = some x ∧ len1 ≤ cap1 ∧ cap1 ≤ maxLen ∧ z1.length = cap1 ∧ (∀ i, i < z1.length → w.cell? (x.add i) = some (.int .i64 (z1.getD i 0))) ∧ ∀ n ∈ z1, (Lit.int .i64 n).wf = true) (y1 : len1 * 8 ≤ 140737488351232) (w2 : (Lit.int .i64 a2).wf = true) (w3 : (Lit.int .i64 a3).wf = true) :
    Calls Try.prog 4 #[.slice a0 len0 cap0, .slice a1 len1 cap1, .int .i64 a2, .int .i64 a3] w fun e w' => e = .returned (.bool true) ∧ Below w.heap.size w w' := by
  obtain ⟨l0, rfl, hr0, hm0, hw0, hc0⟩ := ReadsInt.ofRowC w0
  obtain ⟨l1, rfl, hr1, hm1, hw1, hc1⟩ := ReadsInt.ofRowC w1
  obtain ⟨k, h⟩ := P l0 l1 a2 a3 hm0 y0 hw0 hm1 y1 hw1 w2 w3
  refine (dialtonelaw24_RouteEnds.calls k _ _ l0 _ _ l1 a2 a3 true w (Kd.C_of_reads (d := (0 : Int)) (h1 := fun _ => rfl) hr0) hc0 (Kd.C_of_reads (d := (0 : Int)) (h1 := fun _ => rfl) hr1) hc1 h).mono ?_
  rintro e w' ⟨rfl, hd⟩
  exact ⟨rfl, hd⟩

end Go.Proofs.Ytmiahmpobpokmaa.P
