-- PRINTED by print.py (a twelfth state) out of the translation. Not trusted: Lean checks it.
import Derived.Test.YtmiahmpobpokmaaPx0
import Derived.Test.YtmiahmpobpokmaaPx1
import Derived.Test.YtmiahmpobpokmaaPx4
import Derived.Test.YtmiahmpobpokmaaPx6
import Derived.Test.YtmiahmpobpokmaaPx12
import Derived.Test.YtmiahmpobpokmaaPx14
import Derived.Test.YtmiahmpobpokmaaPx15
namespace Go.Proofs.Ytmiahmpobpokmaa.P
open Go.RowKit Go.Proofs.YtmiahmpobpokmaaW.PrintWords Go.Proofs.YtmiahmpobpokmaaW.PrintLast Go.Proofs.YtmiahmpobpokmaaW.PrintMore Go.Proofs.YtmiahmpobpokmaaH Go.Proofs.YtmiahmpobpokmaaR
attribute [local go_sem] max2_int min2_int max_two min_two max_three min_three max_four min_four   -- for this text's walks alone
set_option linter.unusedVariables false
set_option linter.unusedSimpArgs false

attribute [local go_sem high] eqA40
/-! ### dialtonelaw24_RouteMoves: function 9 -/
mutual
def dialtonelaw24_RouteMoves.j0 : Nat → Int → Int → List Int → List Int → Int → Option (Bool)
  | 0, _, _, _, _, _ => none
  | k + 1, x3, x4, x12, x13, x14 => if 0 ≤ (wrap64 ((x12.length : Int) - 1)) then (if (wrap64 ((x12.length : Int) - 1)) < (x12.length : Int) then ((dialtonelaw24_pick.f x3 9).bind fun t488 => (if (wrap64 (t488 - 1)) = (rd x12 (wrap64 ((x12.length : Int) - 1))) then ((dialtonelaw24_pick.f (wrap64 ((rd x12 (wrap64 ((x12.length : Int) - 1))) + 2)) 9).bind fun t489 => (dialtonelaw24_RouteMoves.j1 k x4 x12 x13 x14 (rd x12 (wrap64 ((x12.length : Int) - 1))) (wrap64 (t489 - 1)))) else (dialtonelaw24_RouteMoves.j1 k x4 x12 x13 x14 (rd x12 (wrap64 ((x12.length : Int) - 1))) (wrap64 (t488 - 1))))) else (none)) else (none)
def dialtonelaw24_RouteMoves.j1 : Nat → Int → List Int → List Int → Int → Int → Int → Option (Bool)
  | 0, _, _, _, _, _, _ => none
  | k + 1, x4, x12, x13, x14, x15, x16 => (some (([] : List Int) : List Int)).bind fun y490 => (if y490.length + x12.length < 17592186044416 then ((some (y490 ++ x12 : List Int)).bind fun y493 => (if y493.length < 17592186044416 then ((some (([] : List Int) : List Int)).bind fun y499 => (if y499.length + x13.length < 17592186044416 then ((some (([x15, x16] : List Int) : List Int)).bind fun y505 => (dialtonelaw24_RouteMoves.l0 k x4 x12 x13 x14 x15 x16 (y493 ++ [x16]) (y499 ++ x13) y505 (y505.length : Int) 0)) else (none))) else (none))) else (none))
def dialtonelaw24_RouteMoves.l0 : Nat → Int → List Int → List Int → Int → Int → Int → List Int → List Int → List Int → Int → Int → Option (Bool)
  | 0, _, _, _, _, _, _, _, _, _, _, _ => none
  | k + 1, x4, x12, x13, x14, x15, x16, x17, x18, x75, x76, x77 => if x77 < x76 then (if 0 ≤ x77 then (if x77 < (x75.length : Int) then (if (rd x75 x77) ≥ 0 then (if 0 ≤ (rd x75 x77) then (if (rd x75 x77) < (x18.length : Int) then (if (rd x18 (rd x75 x77)) ≥ 0 then (dialtonelaw24_RouteMoves.l0 k x4 x12 x13 x14 x15 x16 x17 (x18.set ((rd x75 x77) : Int).toNat (wrap64 ((x17.length : Int) - 1))) x75 x76 (wrap64 (x77 + 1))) else (dialtonelaw24_RouteMoves.l0 k x4 x12 x13 x14 x15 x16 x17 x18 x75 x76 (wrap64 (x77 + 1)))) else (none)) else (none)) else (dialtonelaw24_RouteMoves.l0 k x4 x12 x13 x14 x15 x16 x17 x18 x75 x76 (wrap64 (x77 + 1)))) else (none)) else (none)) else ((route_Valid.f x17 x18 (wrap64 (x14 + 1))).bind fun t511 => (if t511 = true then ((dialtonelaw24_pick.f x4 8).bind fun t512 => ((route_Path.f k x12 x13 x14 t512).bind fun bt513 => ((route_Path.f k x17 x18 (wrap64 (x14 + 1)) t512).bind fun bt518 => (if bt513.2.2 = 0 then (dialtonelaw24_RouteMoves.j3 k x15 x16 bt513.1 bt513.2.2 bt518.1 bt518.2.2 (bt518.2.2 != 0)) else (dialtonelaw24_RouteMoves.j3 k x15 x16 bt513.1 bt513.2.2 bt518.1 bt518.2.2 true))))) else (none)))
def dialtonelaw24_RouteMoves.j3 : Nat → Int → Int → List (S40) → Int → List (S40) → Int → Bool → Option (Bool)
  | 0, _, _, _, _, _, _, _ => none
  | k + 1, x15, x16, x22, x24, x25, x27, x129 => if x129 = true then (some (x24 == x27)) else (dialtonelaw24_RouteMoves.l1 k x15 x16 x22 x25 0)
def dialtonelaw24_RouteMoves.l1 : Nat → Int → Int → List (S40) → List (S40) → Int → Option (Bool)
  | 0, _, _, _, _, _ => none
  | k + 1, x15, x16, x22, x25, x28 => if x28 < (x25.length : Int) then (if 0 ≤ x28 then (if ((rd_T40 x25 x28).f0) = x15 then (dialtonelaw24_RouteMoves.j5 k x15 x16 x22 x25 x28 true) else (dialtonelaw24_RouteMoves.j5 k x15 x16 x22 x25 x28 (((rd_T40 x25 x28).f0) == x16))) else (none)) else (some ((x22.length : Int) == (x25.length : Int)))
def dialtonelaw24_RouteMoves.j5 : Nat → Int → Int → List (S40) → List (S40) → Int → Bool → Option (Bool)
  | 0, _, _, _, _, _, _ => none
  | k + 1, x15, x16, x22, x25, x28, x154 => if x154 = true then (if x28 ≥ (x22.length : Int) then (some true) else (if 0 ≤ x28 then (if x28 < (x22.length : Int) then (if x28 < (x25.length : Int) then (some (((rd_T40 x22 x28).f0) == ((rd_T40 x25 x28).f0))) else (none)) else (none)) else (none))) else (if x28 ≥ (x22.length : Int) then (none) else (if 0 ≤ x28 then (if x28 < (x22.length : Int) then (if x28 < (x25.length : Int) then (if (!(((rd_T40 x22 x28).f0) == ((rd_T40 x25 x28).f0)) || (!(((rd_T40 x22 x28).f1) == ((rd_T40 x25 x28).f1)))) = true then (none) else (dialtonelaw24_RouteMoves.l1 k x15 x16 x22 x25 (wrap64 (x28 + 1)))) else (none)) else (none)) else (none)))
end
def dialtonelaw24_RouteMoves.f (k : Nat) (l0 : List Int) (l1 : List Int) (a2 : Int) (a3 : Int) (a4 : Int) : Option (Bool) := (dialtonelaw24_sane.f k).bind fun t476 => (if t476 = true then ((dialtoneref24_Made.f k l0 l1 a2).bind fun bt477 => (if bt477.2.2 = 10 then ((dialtoneref24_Known.f k bt477.1 (wrap64 (bt477.2.2 - 1)) l1).bind fun t484 => (dialtonelaw24_RouteMoves.j0 k a3 a4 bt477.1 t484 (wrap64 (bt477.2.2 - 1)))) else (dialtonelaw24_RouteMoves.j0 k a3 a4 bt477.1 bt477.2.1 bt477.2.2))) else (none))
theorem dialtonelaw24_RouteMoves.mono_l : ∀ k, (∀ y0 y1 y2 y3 y4, LeO (dialtonelaw24_RouteMoves.j0 k y0 y1 y2 y3 y4) (dialtonelaw24_RouteMoves.j0 (k + 1) y0 y1 y2 y3 y4)) ∧ (∀ y0 y1 y2 y3 y4 y5, LeO (dialtonelaw24_RouteMoves.j1 k y0 y1 y2 y3 y4 y5) (dialtonelaw24_RouteMoves.j1 (k + 1) y0 y1 y2 y3 y4 y5)) ∧ (∀ y0 y1 y2 y3 y4 y5 y6 y7 y8 y9 y10, LeO (dialtonelaw24_RouteMoves.l0 k y0 y1 y2 y3 y4 y5 y6 y7 y8 y9 y10) (dialtonelaw24_RouteMoves.l0 (k + 1) y0 y1 y2 y3 y4 y5 y6 y7 y8 y9 y10)) ∧ (∀ y0 y1 y2 y3 y4 y5 y6, LeO (dialtonelaw24_RouteMoves.j3 k y0 y1 y2 y3 y4 y5 y6) (dialtonelaw24_RouteMoves.j3 (k + 1) y0 y1 y2 y3 y4 y5 y6)) ∧ (∀ y0 y1 y2 y3 y4, LeO (dialtonelaw24_RouteMoves.l1 k y0 y1 y2 y3 y4) (dialtonelaw24_RouteMoves.l1 (k + 1) y0 y1 y2 y3 y4)) ∧ (∀ y0 y1 y2 y3 y4 y5, LeO (dialtonelaw24_RouteMoves.j5 k y0 y1 y2 y3 y4 y5) (dialtonelaw24_RouteMoves.j5 (k + 1) y0 y1 y2 y3 y4 y5))
  | 0 => ⟨fun _ _ _ _ _ r h => by simp [dialtonelaw24_RouteMoves.j0] at h, fun _ _ _ _ _ _ r h => by simp [dialtonelaw24_RouteMoves.j1] at h, fun _ _ _ _ _ _ _ _ _ _ _ r h => by simp [dialtonelaw24_RouteMoves.l0] at h, fun _ _ _ _ _ _ _ r h => by simp [dialtonelaw24_RouteMoves.j3] at h, fun _ _ _ _ _ r h => by simp [dialtonelaw24_RouteMoves.l1] at h, fun _ _ _ _ _ _ r h => by simp [dialtonelaw24_RouteMoves.j5] at h⟩
  | k + 1 => by
    obtain ⟨ih0, ih1, ih2, ih3, ih4, ih5⟩ := dialtonelaw24_RouteMoves.mono_l k
    refine ⟨?_, ?_, ?_, ?_, ?_, ?_⟩
    · intro y0 y1 y2 y3 y4
      unfold dialtonelaw24_RouteMoves.j0
      repeat' first
      | (with_reducible exact ih0 _ _ _ _ _)
      | (with_reducible exact ih1 _ _ _ _ _ _)
      | (with_reducible exact ih2 _ _ _ _ _ _ _ _ _ _ _)
      | (with_reducible exact ih3 _ _ _ _ _ _ _)
      | (with_reducible exact ih4 _ _ _ _ _)
      | (with_reducible exact ih5 _ _ _ _ _ _)
      | (with_reducible exact dialtonelaw24_sane.mono _)
      | (with_reducible exact dialtoneref24_Known.mono _ _ _ _)
      | (with_reducible exact dialtoneref24_Made.mono _ _ _ _)
      | (with_reducible exact route_Path.mono _ _ _ _ _)
      | (with_reducible exact LeO.refl _)
      | (with_reducible exact LeO.none _)
      | (with_reducible refine LeO.ite ?_ ?_)
      | (with_reducible refine LeO.bind ?_ (fun _ => ?_))
      | exact ih0 _ _ _ _ _
      | exact ih1 _ _ _ _ _ _
      | exact ih2 _ _ _ _ _ _ _ _ _ _ _
      | exact ih3 _ _ _ _ _ _ _
      | exact ih4 _ _ _ _ _
      | exact ih5 _ _ _ _ _ _
      | exact dialtonelaw24_sane.mono _
      | exact dialtoneref24_Known.mono _ _ _ _
      | exact dialtoneref24_Made.mono _ _ _ _
      | exact route_Path.mono _ _ _ _ _
      | exact LeO.none _
      | refine LeO.ite ?_ ?_
      | refine LeO.bind ?_ (fun _ => ?_)
    · intro y0 y1 y2 y3 y4 y5
      unfold dialtonelaw24_RouteMoves.j1
      repeat' first
      | (with_reducible exact ih0 _ _ _ _ _)
      | (with_reducible exact ih1 _ _ _ _ _ _)
      | (with_reducible exact ih2 _ _ _ _ _ _ _ _ _ _ _)
      | (with_reducible exact ih3 _ _ _ _ _ _ _)
      | (with_reducible exact ih4 _ _ _ _ _)
      | (with_reducible exact ih5 _ _ _ _ _ _)
      | (with_reducible exact dialtonelaw24_sane.mono _)
      | (with_reducible exact dialtoneref24_Known.mono _ _ _ _)
      | (with_reducible exact dialtoneref24_Made.mono _ _ _ _)
      | (with_reducible exact route_Path.mono _ _ _ _ _)
      | (with_reducible exact LeO.refl _)
      | (with_reducible exact LeO.none _)
      | (with_reducible refine LeO.ite ?_ ?_)
      | (with_reducible refine LeO.bind ?_ (fun _ => ?_))
      | exact ih0 _ _ _ _ _
      | exact ih1 _ _ _ _ _ _
      | exact ih2 _ _ _ _ _ _ _ _ _ _ _
      | exact ih3 _ _ _ _ _ _ _
      | exact ih4 _ _ _ _ _
      | exact ih5 _ _ _ _ _ _
      | exact dialtonelaw24_sane.mono _
      | exact dialtoneref24_Known.mono _ _ _ _
      | exact dialtoneref24_Made.mono _ _ _ _
      | exact route_Path.mono _ _ _ _ _
      | exact LeO.none _
      | refine LeO.ite ?_ ?_
      | refine LeO.bind ?_ (fun _ => ?_)
    · intro y0 y1 y2 y3 y4 y5 y6 y7 y8 y9 y10
      unfold dialtonelaw24_RouteMoves.l0
      repeat' first
      | (with_reducible exact ih0 _ _ _ _ _)
      | (with_reducible exact ih1 _ _ _ _ _ _)
      | (with_reducible exact ih2 _ _ _ _ _ _ _ _ _ _ _)
      | (with_reducible exact ih3 _ _ _ _ _ _ _)
      | (with_reducible exact ih4 _ _ _ _ _)
      | (with_reducible exact ih5 _ _ _ _ _ _)
      | (with_reducible exact dialtonelaw24_sane.mono _)
      | (with_reducible exact dialtoneref24_Known.mono _ _ _ _)
      | (with_reducible exact dialtoneref24_Made.mono _ _ _ _)
      | (with_reducible exact route_Path.mono _ _ _ _ _)
      | (with_reducible exact LeO.refl _)
      | (with_reducible exact LeO.none _)
      | (with_reducible refine LeO.ite ?_ ?_)
      | (with_reducible refine LeO.bind ?_ (fun _ => ?_))
      | exact ih0 _ _ _ _ _
      | exact ih1 _ _ _ _ _ _
      | exact ih2 _ _ _ _ _ _ _ _ _ _ _
      | exact ih3 _ _ _ _ _ _ _
      | exact ih4 _ _ _ _ _
      | exact ih5 _ _ _ _ _ _
      | exact dialtonelaw24_sane.mono _
      | exact dialtoneref24_Known.mono _ _ _ _
      | exact dialtoneref24_Made.mono _ _ _ _
      | exact route_Path.mono _ _ _ _ _
      | exact LeO.none _
      | refine LeO.ite ?_ ?_
      | refine LeO.bind ?_ (fun _ => ?_)
    · intro y0 y1 y2 y3 y4 y5 y6
      unfold dialtonelaw24_RouteMoves.j3
      repeat' first
      | (with_reducible exact ih0 _ _ _ _ _)
      | (with_reducible exact ih1 _ _ _ _ _ _)
      | (with_reducible exact ih2 _ _ _ _ _ _ _ _ _ _ _)
      | (with_reducible exact ih3 _ _ _ _ _ _ _)
      | (with_reducible exact ih4 _ _ _ _ _)
      | (with_reducible exact ih5 _ _ _ _ _ _)
      | (with_reducible exact dialtonelaw24_sane.mono _)
      | (with_reducible exact dialtoneref24_Known.mono _ _ _ _)
      | (with_reducible exact dialtoneref24_Made.mono _ _ _ _)
      | (with_reducible exact route_Path.mono _ _ _ _ _)
      | (with_reducible exact LeO.refl _)
      | (with_reducible exact LeO.none _)
      | (with_reducible refine LeO.ite ?_ ?_)
      | (with_reducible refine LeO.bind ?_ (fun _ => ?_))
      | exact ih0 _ _ _ _ _
      | exact ih1 _ _ _ _ _ _
      | exact ih2 _ _ _ _ _ _ _ _ _ _ _
      | exact ih3 _ _ _ _ _ _ _
      | exact ih4 _ _ _ _ _
      | exact ih5 _ _ _ _ _ _
      | exact dialtonelaw24_sane.mono _
      | exact dialtoneref24_Known.mono _ _ _ _
      | exact dialtoneref24_Made.mono _ _ _ _
      | exact route_Path.mono _ _ _ _ _
      | exact LeO.none _
      | refine LeO.ite ?_ ?_
      | refine LeO.bind ?_ (fun _ => ?_)
    · intro y0 y1 y2 y3 y4
      unfold dialtonelaw24_RouteMoves.l1
      repeat' first
      | (with_reducible exact ih0 _ _ _ _ _)
      | (with_reducible exact ih1 _ _ _ _ _ _)
      | (with_reducible exact ih2 _ _ _ _ _ _ _ _ _ _ _)
      | (with_reducible exact ih3 _ _ _ _ _ _ _)
      | (with_reducible exact ih4 _ _ _ _ _)
      | (with_reducible exact ih5 _ _ _ _ _ _)
      | (with_reducible exact dialtonelaw24_sane.mono _)
      | (with_reducible exact dialtoneref24_Known.mono _ _ _ _)
      | (with_reducible exact dialtoneref24_Made.mono _ _ _ _)
      | (with_reducible exact route_Path.mono _ _ _ _ _)
      | (with_reducible exact LeO.refl _)
      | (with_reducible exact LeO.none _)
      | (with_reducible refine LeO.ite ?_ ?_)
      | (with_reducible refine LeO.bind ?_ (fun _ => ?_))
      | exact ih0 _ _ _ _ _
      | exact ih1 _ _ _ _ _ _
      | exact ih2 _ _ _ _ _ _ _ _ _ _ _
      | exact ih3 _ _ _ _ _ _ _
      | exact ih4 _ _ _ _ _
      | exact ih5 _ _ _ _ _ _
      | exact dialtonelaw24_sane.mono _
      | exact dialtoneref24_Known.mono _ _ _ _
      | exact dialtoneref24_Made.mono _ _ _ _
      | exact route_Path.mono _ _ _ _ _
      | exact LeO.none _
      | refine LeO.ite ?_ ?_
      | refine LeO.bind ?_ (fun _ => ?_)
    · intro y0 y1 y2 y3 y4 y5
      unfold dialtonelaw24_RouteMoves.j5
      repeat' first
      | (with_reducible exact ih0 _ _ _ _ _)
      | (with_reducible exact ih1 _ _ _ _ _ _)
      | (with_reducible exact ih2 _ _ _ _ _ _ _ _ _ _ _)
      | (with_reducible exact ih3 _ _ _ _ _ _ _)
      | (with_reducible exact ih4 _ _ _ _ _)
      | (with_reducible exact ih5 _ _ _ _ _ _)
      | (with_reducible exact dialtonelaw24_sane.mono _)
      | (with_reducible exact dialtoneref24_Known.mono _ _ _ _)
      | (with_reducible exact dialtoneref24_Made.mono _ _ _ _)
      | (with_reducible exact route_Path.mono _ _ _ _ _)
      | (with_reducible exact LeO.refl _)
      | (with_reducible exact LeO.none _)
      | (with_reducible refine LeO.ite ?_ ?_)
      | (with_reducible refine LeO.bind ?_ (fun _ => ?_))
      | exact ih0 _ _ _ _ _
      | exact ih1 _ _ _ _ _ _
      | exact ih2 _ _ _ _ _ _ _ _ _ _ _
      | exact ih3 _ _ _ _ _ _ _
      | exact ih4 _ _ _ _ _
      | exact ih5 _ _ _ _ _ _
      | exact dialtonelaw24_sane.mono _
      | exact dialtoneref24_Known.mono _ _ _ _
      | exact dialtoneref24_Made.mono _ _ _ _
      | exact route_Path.mono _ _ _ _ _
      | exact LeO.none _
      | refine LeO.ite ?_ ?_
      | refine LeO.bind ?_ (fun _ => ?_)
theorem dialtonelaw24_RouteMoves.mono : ∀ a0 a1 a2 a3 a4 k, LeO (dialtonelaw24_RouteMoves.f k a0 a1 a2 a3 a4) (dialtonelaw24_RouteMoves.f (k + 1) a0 a1 a2 a3 a4) := by
  intro a0 a1 a2 a3 a4 k
  obtain ⟨ih0, ih1, ih2, ih3, ih4, ih5⟩ := dialtonelaw24_RouteMoves.mono_l k
  unfold dialtonelaw24_RouteMoves.f
  repeat' first
      | (with_reducible exact ih0 _ _ _ _ _)
      | (with_reducible exact ih1 _ _ _ _ _ _)
      | (with_reducible exact ih2 _ _ _ _ _ _ _ _ _ _ _)
      | (with_reducible exact ih3 _ _ _ _ _ _ _)
      | (with_reducible exact ih4 _ _ _ _ _)
      | (with_reducible exact ih5 _ _ _ _ _ _)
      | (with_reducible exact dialtonelaw24_sane.mono _)
      | (with_reducible exact dialtoneref24_Known.mono _ _ _ _)
      | (with_reducible exact dialtoneref24_Made.mono _ _ _ _)
      | (with_reducible exact route_Path.mono _ _ _ _ _)
      | (with_reducible exact LeO.refl _)
      | (with_reducible exact LeO.none _)
      | (with_reducible refine LeO.ite ?_ ?_)
      | (with_reducible refine LeO.bind ?_ (fun _ => ?_))
      | exact ih0 _ _ _ _ _
      | exact ih1 _ _ _ _ _ _
      | exact ih2 _ _ _ _ _ _ _ _ _ _ _
      | exact ih3 _ _ _ _ _ _ _
      | exact ih4 _ _ _ _ _
      | exact ih5 _ _ _ _ _ _
      | exact dialtonelaw24_sane.mono _
      | exact dialtoneref24_Known.mono _ _ _ _
      | exact dialtoneref24_Made.mono _ _ _ _
      | exact route_Path.mono _ _ _ _ _
      | exact LeO.none _
      | refine LeO.ite ?_ ?_
      | refine LeO.bind ?_ (fun _ => ?_)
set_option maxHeartbeats 8000000 in
set_option maxRecDepth 100000 in
theorem dialtonelaw24_RouteMoves.calls (k : Nat) (A0 : Option Addr) (c0 : Nat) (l0 : List Int) (A1 : Option Addr) (c1 : Nat) (l1 : List Int) (a2 : Int) (a3 : Int) (a4 : Int) (r : Bool) (w : World) (hr0 : Kd.C (Kd.int .i64) w A0 l0.length l0) (hc0 : l0.length ≤ c0) (hr1 : Kd.C (Kd.int .i64) w A1 l1.length l1) (hc1 : l1.length ≤ c1) (h : dialtonelaw24_RouteMoves.f k l0 l1 a2 a3 a4 = some r) :
    Calls Try.prog 9 #[.slice A0 l0.length c0, .slice A1 l1.length c1, .int .i64 a2, .int .i64 a3, .int .i64 a4] w fun e w' => e = .returned (.bool r) ∧ Below w.heap.size w w' := by
  have hu40 := Try.underlying40
  have HR0 := Aside0.mk hr0
  have HC0 := Aside0.mk hc0
  clear hr0 hc0
  have HR1 := Aside0.mk hr1
  have HC1 := Aside0.mk hc1
  clear hr1 hc1
  have HB := Aside0.mk (Below.refl w.heap.size w)
  have H : ((dialtonelaw24_sane.f k).bind fun t476 => (if t476 = true then ((dialtoneref24_Made.f k l0 l1 a2).bind fun bt477 => (if bt477.2.2 = 10 then ((dialtoneref24_Known.f k bt477.1 (wrap64 (bt477.2.2 - 1)) l1).bind fun t484 => (dialtonelaw24_RouteMoves.j0 k a3 a4 bt477.1 t484 (wrap64 (bt477.2.2 - 1)))) else (dialtonelaw24_RouteMoves.j0 k a3 a4 bt477.1 bt477.2.1 bt477.2.2))) else (none))) = some r := h
  clear h
  replace H := Option.bind_eq_some_iff.mp H
  obtain ⟨t476, A60, H⟩ := H
  replace H : (if t476 = true then ((dialtoneref24_Made.f k l0 l1 a2).bind fun bt477 => (if bt477.2.2 = 10 then ((dialtoneref24_Known.f k bt477.1 (wrap64 (bt477.2.2 - 1)) l1).bind fun t484 => (dialtonelaw24_RouteMoves.j0 k a3 a4 bt477.1 t484 (wrap64 (bt477.2.2 - 1)))) else (dialtonelaw24_RouteMoves.j0 k a3 a4 bt477.1 bt477.2.1 bt477.2.2))) else (none)) = some r := H
  have A6 := Aside0.mk A60
  clear A60
  by_cases c7 : t476 = true
  · subst c7
    have H1 : ((dialtoneref24_Made.f k l0 l1 a2).bind fun bt477 => (if bt477.2.2 = 10 then ((dialtoneref24_Known.f k bt477.1 (wrap64 (bt477.2.2 - 1)) l1).bind fun t484 => (dialtonelaw24_RouteMoves.j0 k a3 a4 bt477.1 t484 (wrap64 (bt477.2.2 - 1)))) else (dialtonelaw24_RouteMoves.j0 k a3 a4 bt477.1 bt477.2.1 bt477.2.2))) = some r := by rw [if_pos rfl] at H; exact H
    clear H
    have H := H1
    clear H1
    replace H := Option.bind_eq_some_iff.mp H
    obtain ⟨⟨t477, t478, t479⟩, A80, H⟩ := H
    replace H : (if t479 = 10 then ((dialtoneref24_Known.f k t477 (wrap64 (t479 - 1)) l1).bind fun t484 => (dialtonelaw24_RouteMoves.j0 k a3 a4 t477 t484 (wrap64 (t479 - 1)))) else (dialtonelaw24_RouteMoves.j0 k a3 a4 t477 t478 t479)) = some r := H
    have A8 := Aside0.mk A80
    clear A80
    have HC9 := Aside0.mk H
    clear H
    go_enter Try.func9, Try.ntmps9
    go_upto_if 41 with (first | (go_at_call 11; (with_reducible refine (dialtonelaw24_sane.calls k  true _ A6.out).mono ?_); rintro e w10 ⟨rfl, hb⟩; have n0_ := Aside0.mk (below_step (by repeat (first | (with_reducible first | exact HB.out | apply below_alloc | apply pw_below_drewN | apply below_drew1) | exact HB.out)) hb); clear HB; have HB := n0_; clear n0_; (try clear hb); (try clear hb2); (try clear hk); (try clear hi)) | (go_at_call 12; (with_reducible refine (dialtoneref24_Made.calls k _ _ l0 _ _ l1 a2 t477 t478 t479 _ ?side1 ?side2 ?side3 ?side4 A8.out).mono ?_); (case side1 => repeat (first | exact (Kd.C_below HR0.out HB.out) | (with_reducible refine Kd.C_alloc ?_ _) | (with_reducible refine Kd.C_drewN ?_ _) | (with_reducible refine Kd.C_drew ?_))); (case side2 => exact HC0.out); (case side3 => repeat (first | exact (Kd.C_below HR1.out HB.out) | (with_reducible refine Kd.C_alloc ?_ _) | (with_reducible refine Kd.C_drewN ?_ _) | (with_reducible refine Kd.C_drew ?_))); (case side4 => exact HC1.out); rintro e w11 ⟨v480, v482, rfl, ho0, ho1, hb⟩; have n0_ := Aside0.mk (Kd.R_lower ho0 (below_size (by repeat (first | (with_reducible first | exact HB.out | apply below_alloc | apply pw_below_drewN | apply below_drew1) | exact HB.out)))); have n1_ := Aside0.mk (Kd.R_lower ho1 (below_size (by repeat (first | (with_reducible first | exact HB.out | apply below_alloc | apply pw_below_drewN | apply below_drew1) | exact HB.out)))); have n2_ := Aside0.mk (below_step (by repeat (first | (with_reducible first | exact HB.out | apply below_alloc | apply pw_below_drewN | apply below_drew1) | exact HB.out)) hb); clear HB; have HO481 := n0_; have HO483 := n1_; have HB := n2_; clear n0_ n1_ n2_; (try clear hb); (try clear hb2); (try clear hk); (try clear hi); (try clear ho0); (try clear ho1)))
    repeat (go_quiet (first | (go_at_call 11; (with_reducible refine (dialtonelaw24_sane.calls k  true _ A6.out).mono ?_); rintro e w10 ⟨rfl, hb⟩; have n0_ := Aside0.mk (below_step (by repeat (first | (with_reducible first | exact HB.out | apply below_alloc | apply pw_below_drewN | apply below_drew1) | exact HB.out)) hb); clear HB; have HB := n0_; clear n0_; (try clear hb); (try clear hb2); (try clear hk); (try clear hi)) | (go_at_call 12; (with_reducible refine (dialtoneref24_Made.calls k _ _ l0 _ _ l1 a2 t477 t478 t479 _ ?side1 ?side2 ?side3 ?side4 A8.out).mono ?_); (case side1 => repeat (first | exact (Kd.C_below HR0.out HB.out) | (with_reducible refine Kd.C_alloc ?_ _) | (with_reducible refine Kd.C_drewN ?_ _) | (with_reducible refine Kd.C_drew ?_))); (case side2 => exact HC0.out); (case side3 => repeat (first | exact (Kd.C_below HR1.out HB.out) | (with_reducible refine Kd.C_alloc ?_ _) | (with_reducible refine Kd.C_drewN ?_ _) | (with_reducible refine Kd.C_drew ?_))); (case side4 => exact HC1.out); rintro e w11 ⟨v480, v482, rfl, ho0, ho1, hb⟩; have n0_ := Aside0.mk (Kd.R_lower ho0 (below_size (by repeat (first | (with_reducible first | exact HB.out | apply below_alloc | apply pw_below_drewN | apply below_drew1) | exact HB.out)))); have n1_ := Aside0.mk (Kd.R_lower ho1 (below_size (by repeat (first | (with_reducible first | exact HB.out | apply below_alloc | apply pw_below_drewN | apply below_drew1) | exact HB.out)))); have n2_ := Aside0.mk (below_step (by repeat (first | (with_reducible first | exact HB.out | apply below_alloc | apply pw_below_drewN | apply below_drew1) | exact HB.out)) hb); clear HB; have HO481 := n0_; have HO483 := n1_; have HB := n2_; clear n0_ n1_ n2_; (try clear hb); (try clear hb2); (try clear hk); (try clear hi); (try clear ho0); (try clear ho1))); go_upto_if 41 with (first | (go_at_call 11; (with_reducible refine (dialtonelaw24_sane.calls k  true _ A6.out).mono ?_); rintro e w10 ⟨rfl, hb⟩; have n0_ := Aside0.mk (below_step (by repeat (first | (with_reducible first | exact HB.out | apply below_alloc | apply pw_below_drewN | apply below_drew1) | exact HB.out)) hb); clear HB; have HB := n0_; clear n0_; (try clear hb); (try clear hb2); (try clear hk); (try clear hi)) | (go_at_call 12; (with_reducible refine (dialtoneref24_Made.calls k _ _ l0 _ _ l1 a2 t477 t478 t479 _ ?side1 ?side2 ?side3 ?side4 A8.out).mono ?_); (case side1 => repeat (first | exact (Kd.C_below HR0.out HB.out) | (with_reducible refine Kd.C_alloc ?_ _) | (with_reducible refine Kd.C_drewN ?_ _) | (with_reducible refine Kd.C_drew ?_))); (case side2 => exact HC0.out); (case side3 => repeat (first | exact (Kd.C_below HR1.out HB.out) | (with_reducible refine Kd.C_alloc ?_ _) | (with_reducible refine Kd.C_drewN ?_ _) | (with_reducible refine Kd.C_drew ?_))); (case side4 => exact HC1.out); rintro e w11 ⟨v480, v482, rfl, ho0, ho1, hb⟩; have n0_ := Aside0.mk (Kd.R_lower ho0 (below_size (by repeat (first | (with_reducible first | exact HB.out | apply below_alloc | apply pw_below_drewN | apply below_drew1) | exact HB.out)))); have n1_ := Aside0.mk (Kd.R_lower ho1 (below_size (by repeat (first | (with_reducible first | exact HB.out | apply below_alloc | apply pw_below_drewN | apply below_drew1) | exact HB.out)))); have n2_ := Aside0.mk (below_step (by repeat (first | (with_reducible first | exact HB.out | apply below_alloc | apply pw_below_drewN | apply below_drew1) | exact HB.out)) hb); clear HB; have HO481 := n0_; have HO483 := n1_; have HB := n2_; clear n0_ n1_ n2_; (try clear hb); (try clear hb2); (try clear hk); (try clear hi); (try clear ho0); (try clear ho1))))
    (try simp only [Act.put, List.setIfInBounds_toArray, List.set_cons_zero, List.set_cons_succ])
    go_cut [13, 14] (fun v13 v14 wc => ∃ (kq : Nat) (x13_8 : List Int) (x14_8 : Int), v14 = .int .i64 x14_8 ∧ Aside0 (dialtonelaw24_RouteMoves.j0 kq a3 a4 t477 x13_8 x14_8 = some r) ∧ Aside0 (kq ≤ k) ∧ Aside0 (Kd.R (Kd.int .i64) 3 wc w.heap.size (fun k_ => some k_ ≠ (v13 : Value).ownBlock) v480 t477) ∧ Aside0 (Kd.R (Kd.int .i64) 3 wc w.heap.size (fun k_ => some k_ ≠ (v480 : Value).ownBlock) v13 x13_8) ∧ Aside0 (Below w.heap.size w wc))
    case first =>
      have H := HC9.out
      clear HC9
      by_cases c12 : t479 = 10
      · rw [if_pos c12] at H
        have c12b0 : (t479 == 10) = true := beq_iff_eq.mpr c12
        have c12b1 : (t479 != 10) = false := bne_eq_false_iff_eq.mpr c12
        clear c12
        (first | rw [c12b0] | (simp only [i64_w, i32_w]; rw [c12b0]) | rw [c12b1] | skip)
        replace H := Option.bind_eq_some_iff.mp H
        obtain ⟨t484, A130, H⟩ := H
        replace H : (dialtonelaw24_RouteMoves.j0 k a3 a4 t477 t484 (wrap64 (t479 - 1))) = some r := H
        have A13 := Aside0.mk A130
        clear A130
        have H' := Aside0.mk H
        clear H
        obtain ⟨Ao14, co14, eo14⟩ := Kd.R_slice HO481.out
        subst eo14
        go_wp2_with (first | (go_at_call 28; (with_reducible refine (dialtoneref24_Known.calls k _ _ t477 (wrap64 (t479 - 1)) _ _ l1 t484 _ ?side1 ?side2 ?side3 ?side4 A13.out).mono ?_); (case side1 => repeat (first | exact (Kd.R_reads' HO481.out).2.2 | (with_reducible refine Kd.C_alloc ?_ _) | (with_reducible refine Kd.C_drewN ?_ _) | (with_reducible refine Kd.C_drew ?_))); (case side2 => exact (Kd.R_reads' HO481.out).2.1); (case side3 => repeat (first | exact (Kd.C_below HR1.out HB.out) | (with_reducible refine Kd.C_alloc ?_ _) | (with_reducible refine Kd.C_drewN ?_ _) | (with_reducible refine Kd.C_drew ?_))); (case side4 => exact HC1.out); rintro e w15 ⟨v485, rfl, ho0, hb⟩; have n0_ := Aside0.mk (Kd.R_elder' (by (with_reducible repeat (first | apply Kd.R_alloc | apply Kd.R_drewN | apply Kd.R_drew)); exact HO481.out) (Kd.R_base ho0) hb); have n1_ := Aside0.mk (Kd.R_elder' (by (with_reducible repeat (first | apply Kd.R_alloc | apply Kd.R_drewN | apply Kd.R_drew)); exact HO483.out) (Kd.R_base ho0) hb); have n2_ := Aside0.mk (Kd.R_lower (Kd.R_new' (Kd.R_new' ho0 (Kd.R_lt (by (with_reducible repeat (first | apply Kd.R_alloc | apply Kd.R_drewN | apply Kd.R_drew)); exact HO481.out))) (Kd.R_lt (by (with_reducible repeat (first | apply Kd.R_alloc | apply Kd.R_drewN | apply Kd.R_drew)); exact HO483.out))) (below_size (by repeat (first | (with_reducible first | exact HB.out | apply below_alloc | apply pw_below_drewN | apply below_drew1) | exact HB.out)))); have n3_ := Aside0.mk (below_step (by repeat (first | (with_reducible first | exact HB.out | apply below_alloc | apply pw_below_drewN | apply below_drew1) | exact HB.out)) hb); clear HO481; clear HO483; clear HB; have HO481 := n0_; have HO483 := n1_; have HO486 := n2_; have HB := n3_; clear n0_ n1_ n2_ n3_; (try clear hb); (try clear hb2); (try clear hk); (try clear hi); (try clear ho0)))
        repeat (go_quiet (first | (go_at_call 28; (with_reducible refine (dialtoneref24_Known.calls k _ _ t477 (wrap64 (t479 - 1)) _ _ l1 t484 _ ?side1 ?side2 ?side3 ?side4 A13.out).mono ?_); (case side1 => repeat (first | exact (Kd.R_reads' HO481.out).2.2 | (with_reducible refine Kd.C_alloc ?_ _) | (with_reducible refine Kd.C_drewN ?_ _) | (with_reducible refine Kd.C_drew ?_))); (case side2 => exact (Kd.R_reads' HO481.out).2.1); (case side3 => repeat (first | exact (Kd.C_below HR1.out HB.out) | (with_reducible refine Kd.C_alloc ?_ _) | (with_reducible refine Kd.C_drewN ?_ _) | (with_reducible refine Kd.C_drew ?_))); (case side4 => exact HC1.out); rintro e w15 ⟨v485, rfl, ho0, hb⟩; have n0_ := Aside0.mk (Kd.R_elder' (by (with_reducible repeat (first | apply Kd.R_alloc | apply Kd.R_drewN | apply Kd.R_drew)); exact HO481.out) (Kd.R_base ho0) hb); have n1_ := Aside0.mk (Kd.R_elder' (by (with_reducible repeat (first | apply Kd.R_alloc | apply Kd.R_drewN | apply Kd.R_drew)); exact HO483.out) (Kd.R_base ho0) hb); have n2_ := Aside0.mk (Kd.R_lower (Kd.R_new' (Kd.R_new' ho0 (Kd.R_lt (by (with_reducible repeat (first | apply Kd.R_alloc | apply Kd.R_drewN | apply Kd.R_drew)); exact HO481.out))) (Kd.R_lt (by (with_reducible repeat (first | apply Kd.R_alloc | apply Kd.R_drewN | apply Kd.R_drew)); exact HO483.out))) (below_size (by repeat (first | (with_reducible first | exact HB.out | apply below_alloc | apply pw_below_drewN | apply below_drew1) | exact HB.out)))); have n3_ := Aside0.mk (below_step (by repeat (first | (with_reducible first | exact HB.out | apply below_alloc | apply pw_below_drewN | apply below_drew1) | exact HB.out)) hb); clear HO481; clear HO483; clear HB; have HO481 := n0_; have HO483 := n1_; have HO486 := n2_; have HB := n3_; clear n0_ n1_ n2_ n3_; (try clear hb); (try clear hb2); (try clear hk); (try clear hi); (try clear ho0))); try go_wp2_with (first | (go_at_call 28; (with_reducible refine (dialtoneref24_Known.calls k _ _ t477 (wrap64 (t479 - 1)) _ _ l1 t484 _ ?side1 ?side2 ?side3 ?side4 A13.out).mono ?_); (case side1 => repeat (first | exact (Kd.R_reads' HO481.out).2.2 | (with_reducible refine Kd.C_alloc ?_ _) | (with_reducible refine Kd.C_drewN ?_ _) | (with_reducible refine Kd.C_drew ?_))); (case side2 => exact (Kd.R_reads' HO481.out).2.1); (case side3 => repeat (first | exact (Kd.C_below HR1.out HB.out) | (with_reducible refine Kd.C_alloc ?_ _) | (with_reducible refine Kd.C_drewN ?_ _) | (with_reducible refine Kd.C_drew ?_))); (case side4 => exact HC1.out); rintro e w15 ⟨v485, rfl, ho0, hb⟩; have n0_ := Aside0.mk (Kd.R_elder' (by (with_reducible repeat (first | apply Kd.R_alloc | apply Kd.R_drewN | apply Kd.R_drew)); exact HO481.out) (Kd.R_base ho0) hb); have n1_ := Aside0.mk (Kd.R_elder' (by (with_reducible repeat (first | apply Kd.R_alloc | apply Kd.R_drewN | apply Kd.R_drew)); exact HO483.out) (Kd.R_base ho0) hb); have n2_ := Aside0.mk (Kd.R_lower (Kd.R_new' (Kd.R_new' ho0 (Kd.R_lt (by (with_reducible repeat (first | apply Kd.R_alloc | apply Kd.R_drewN | apply Kd.R_drew)); exact HO481.out))) (Kd.R_lt (by (with_reducible repeat (first | apply Kd.R_alloc | apply Kd.R_drewN | apply Kd.R_drew)); exact HO483.out))) (below_size (by repeat (first | (with_reducible first | exact HB.out | apply below_alloc | apply pw_below_drewN | apply below_drew1) | exact HB.out)))); have n3_ := Aside0.mk (below_step (by repeat (first | (with_reducible first | exact HB.out | apply below_alloc | apply pw_below_drewN | apply below_drew1) | exact HB.out)) hb); clear HO481; clear HO483; clear HB; have HO481 := n0_; have HO483 := n1_; have HO486 := n2_; have HB := n3_; clear n0_ n1_ n2_ n3_; (try clear hb); (try clear hb2); (try clear hk); (try clear hi); (try clear ho0))))
        go_meet
        case rel => exact ⟨_, (t484), (wrap64 (t479 - 1)), (by first | rfl | (simp; done) | (simp [*]; done)), H', ⟨by first | omega | exact Nat.le_refl _⟩, ⟨by (with_reducible repeat (first | apply Kd.R_alloc | apply Kd.R_drewN | apply Kd.R_drew)); exact Kd.R_mono HO481.out (fun _ hk => hk.2)⟩, ⟨by (with_reducible repeat (first | apply Kd.R_alloc | apply Kd.R_drewN | apply Kd.R_drew)); exact Kd.R_mono HO486.out (fun _ hk => hk.1.2)⟩, ⟨by repeat (first | (with_reducible first | exact HB.out | apply below_alloc | apply pw_below_drewN | apply below_drew1) | exact HB.out)⟩⟩
      · rw [if_neg c12] at H
        have c12b0 : (t479 == 10) = false := beq_eq_false_iff_ne.mpr c12
        have c12b1 : (t479 != 10) = true := bne_iff_ne.mpr c12
        (first | rw [c12b0] | (simp only [i64_w, i32_w]; rw [c12b0]) | rw [c12b1] | skip)
        have H' := Aside0.mk H
        clear H
        go_wp2
        repeat (go_quiet (fail); try go_wp2)
        go_meet
        case rel => exact ⟨_, (t478), (t479), (by first | rfl | (simp; done) | (simp [*]; done)), H', ⟨by first | omega | exact Nat.le_refl _⟩, ⟨by (with_reducible repeat (first | apply Kd.R_alloc | apply Kd.R_drewN | apply Kd.R_drew)); exact HO481.out⟩, ⟨by (with_reducible repeat (first | apply Kd.R_alloc | apply Kd.R_drewN | apply Kd.R_drew)); exact HO483.out⟩, ⟨by repeat (first | (with_reducible first | exact HB.out | apply below_alloc | apply pw_below_drewN | apply below_drew1) | exact HB.out)⟩⟩
    case rest =>
      clear HC9
      try clear c1
      try clear p2
      try clear p6
      try clear c7
      try clear c9
      try clear c12
      try clear c12b0
      try clear c12b1
      obtain ⟨kq, x13_8, x14_8, rfl, HA, HJ8, HO_12, HO_13, HB⟩ := hcut
      cases kq with
      | zero => exact absurd HA.out (by simp [dialtonelaw24_RouteMoves.j0])
      | succ kj8 =>
        have H := HA.out
        clear HA
        simp only [dialtonelaw24_RouteMoves.j0] at H
        obtain ⟨ji16, hji16⟩ : ∃ j_ : Int, (wrap64 ((t477.length : Int) - 1)) = j_ := ⟨_, rfl⟩
        replace H : (if 0 ≤ (ji16) then (if (ji16) < (t477.length : Int) then ((dialtonelaw24_pick.f a3 9).bind fun t488 => (if (wrap64 (t488 - 1)) = (rd t477 (ji16)) then ((dialtonelaw24_pick.f (wrap64 ((rd t477 (ji16)) + 2)) 9).bind fun t489 => (dialtonelaw24_RouteMoves.j1 kj8 a4 t477 x13_8 x14_8 (rd t477 (ji16)) (wrap64 (t489 - 1)))) else (dialtonelaw24_RouteMoves.j1 kj8 a4 t477 x13_8 x14_8 (rd t477 (ji16)) (wrap64 (t488 - 1))))) else (none)) else (none)) = some r := by first | (rw [hji16] at H; exact H) | (simp only [hji16] at H ⊢; exact H)
        have hji16w : (IntKind.i64.wrap ((t477.length : Int) - 1)) = ji16 := (i64_w _).trans hji16
        by_cases c17 : 0 ≤ (ji16)
        · rw [if_pos c17] at H
          have c17b0 : decide (0 ≤ (ji16)) = true := decide_eq_true c17
          clear c17
          by_cases c18 : (ji16) < (t477.length : Int)
          · rw [if_pos c18] at H
            have c18b0 : decide ((ji16) < (t477.length : Int)) = true := decide_eq_true c18
            clear c18
            replace H := Option.bind_eq_some_iff.mp H
            obtain ⟨t488, A190, H⟩ := H
            replace H : (if (wrap64 (t488 - 1)) = (rd t477 (ji16)) then ((dialtonelaw24_pick.f (wrap64 ((rd t477 (ji16)) + 2)) 9).bind fun t489 => (dialtonelaw24_RouteMoves.j1 kj8 a4 t477 x13_8 x14_8 (rd t477 (ji16)) (wrap64 (t489 - 1)))) else (dialtonelaw24_RouteMoves.j1 kj8 a4 t477 x13_8 x14_8 (rd t477 (ji16)) (wrap64 (t488 - 1)))) = some r := H
            have A19 := Aside0.mk A190
            clear A190
            have HC20 := Aside0.mk H
            clear H
            obtain ⟨Ao21, co21, eo21⟩ := Kd.R_slice HO_12.out
            subst eo21
            have p487 : 0 ≤ ((ji16) : Int) := of_decide_eq_true (by first | (with_reducible assumption) | assumption)
            have q487 : (ji16) < (t477.length : Int) := of_decide_eq_true (by first | (with_reducible assumption) | assumption)
            (try (obtain ⟨Ao_, co_, eo_⟩ := Kd.R_slice HO_12.out; cases eo_))
            obtain ⟨ad487, e487, hx487_0⟩ := Kd.at_int (Kd.R_reads' HO_12.out).2.2 (ji16) p487 q487
            cases e487
            replace p487 := eq_true p487
            replace q487 := eq_true q487
            go_upto_if 59 with (first | (go_at_call 13; (with_reducible refine (dialtonelaw24_pick.calls a3 9 t488 _ A19.out).mono ?_); rintro e w' ⟨rfl, ⟨nd, rfl⟩⟩; (try first | exact ⟨rfl, _, World.drewN_drewN _ _ _⟩ | exact ⟨rfl, _, Eq.trans (World.drewN_drewN _ _ _) (congrArg (World.drewN _) (Nat.add_assoc _ _ _))⟩)))
            repeat (go_quiet (first | (go_at_call 13; (with_reducible refine (dialtonelaw24_pick.calls a3 9 t488 _ A19.out).mono ?_); rintro e w' ⟨rfl, ⟨nd, rfl⟩⟩; (try first | exact ⟨rfl, _, World.drewN_drewN _ _ _⟩ | exact ⟨rfl, _, Eq.trans (World.drewN_drewN _ _ _) (congrArg (World.drewN _) (Nat.add_assoc _ _ _))⟩))); go_upto_if 59 with (first | (go_at_call 13; (with_reducible refine (dialtonelaw24_pick.calls a3 9 t488 _ A19.out).mono ?_); rintro e w' ⟨rfl, ⟨nd, rfl⟩⟩; (try first | exact ⟨rfl, _, World.drewN_drewN _ _ _⟩ | exact ⟨rfl, _, Eq.trans (World.drewN_drewN _ _ _) (congrArg (World.drewN _) (Nat.add_assoc _ _ _))⟩))))
            (try simp only [Act.put, List.setIfInBounds_toArray, List.set_cons_zero, List.set_cons_succ])
            go_cut [16] (fun v16 wc => ∃ (kq : Nat) (x16_19 : Int), v16 = .int .i64 x16_19 ∧ Aside0 (dialtonelaw24_RouteMoves.j1 kq a4 t477 x13_8 x14_8 (rd t477 (ji16)) x16_19 = some r) ∧ Aside0 (kq ≤ kj8) ∧ Aside0 (Kd.R (Kd.int .i64) 3 wc w.heap.size (fun k_ => some k_ ≠ (u13 : Value).ownBlock) (.slice (some ad487) t477.length co21) t477) ∧ Aside0 (Kd.R (Kd.int .i64) 3 wc w.heap.size (fun k_ => some k_ ≠ ((.slice (some ad487) t477.length co21) : Value).ownBlock) u13 x13_8) ∧ Aside0 (Below w.heap.size w wc))
            case first =>
              have H := HC20.out
              clear HC20
              by_cases c22 : (wrap64 (t488 - 1)) = (rd t477 (ji16))
              · rw [if_pos c22] at H
                have c22b0 : ((wrap64 (t488 - 1)) == (rd t477 (ji16))) = true := beq_iff_eq.mpr c22
                have c22b1 : ((wrap64 (t488 - 1)) != (rd t477 (ji16))) = false := bne_eq_false_iff_eq.mpr c22
                clear c22
                (first | rw [c22b0] | (simp only [i64_w, i32_w]; rw [c22b0]) | rw [c22b1] | skip)
                replace H := Option.bind_eq_some_iff.mp H
                obtain ⟨t489, A230, H⟩ := H
                replace H : (dialtonelaw24_RouteMoves.j1 kj8 a4 t477 x13_8 x14_8 (rd t477 (ji16)) (wrap64 (t489 - 1))) = some r := H
                have A23 := Aside0.mk A230
                clear A230
                have H' := Aside0.mk H
                clear H
                go_wp2_with (first | (go_at_call 13; (with_reducible refine (dialtonelaw24_pick.calls (wrap64 ((rd t477 (ji16)) + 2)) 9 t489 _ A23.out).mono ?_); rintro e w' ⟨rfl, ⟨nd, rfl⟩⟩; (try first | exact ⟨rfl, _, World.drewN_drewN _ _ _⟩ | exact ⟨rfl, _, Eq.trans (World.drewN_drewN _ _ _) (congrArg (World.drewN _) (Nat.add_assoc _ _ _))⟩)))
                repeat (go_quiet (first | (go_at_call 13; (with_reducible refine (dialtonelaw24_pick.calls (wrap64 ((rd t477 (ji16)) + 2)) 9 t489 _ A23.out).mono ?_); rintro e w' ⟨rfl, ⟨nd, rfl⟩⟩; (try first | exact ⟨rfl, _, World.drewN_drewN _ _ _⟩ | exact ⟨rfl, _, Eq.trans (World.drewN_drewN _ _ _) (congrArg (World.drewN _) (Nat.add_assoc _ _ _))⟩))); try go_wp2_with (first | (go_at_call 13; (with_reducible refine (dialtonelaw24_pick.calls (wrap64 ((rd t477 (ji16)) + 2)) 9 t489 _ A23.out).mono ?_); rintro e w' ⟨rfl, ⟨nd, rfl⟩⟩; (try first | exact ⟨rfl, _, World.drewN_drewN _ _ _⟩ | exact ⟨rfl, _, Eq.trans (World.drewN_drewN _ _ _) (congrArg (World.drewN _) (Nat.add_assoc _ _ _))⟩))))
                go_meet
                case rel => exact ⟨_, (wrap64 (t489 - 1)), (by first | rfl | (simp; done) | (simp [*]; done)), H', ⟨by have := HJ8.out; first | omega | exact Nat.le_refl _⟩, ⟨by (with_reducible repeat (first | apply Kd.R_alloc | apply Kd.R_drewN | apply Kd.R_drew)); exact HO_12.out⟩, ⟨by (with_reducible repeat (first | apply Kd.R_alloc | apply Kd.R_drewN | apply Kd.R_drew)); exact HO_13.out⟩, ⟨by repeat (first | (with_reducible first | exact HB.out | apply below_alloc | apply pw_below_drewN | apply below_drew1) | exact HB.out)⟩⟩
              · rw [if_neg c22] at H
                have c22b0 : ((wrap64 (t488 - 1)) == (rd t477 (ji16))) = false := beq_eq_false_iff_ne.mpr c22
                have c22b1 : ((wrap64 (t488 - 1)) != (rd t477 (ji16))) = true := bne_iff_ne.mpr c22
                (first | rw [c22b0] | (simp only [i64_w, i32_w]; rw [c22b0]) | rw [c22b1] | skip)
                have H' := Aside0.mk H
                clear H
                go_wp2
                repeat (go_quiet (fail); try go_wp2)
                go_meet
                case rel => exact ⟨_, (wrap64 (t488 - 1)), (by first | rfl | (simp; done) | (simp [*]; done)), H', ⟨by have := HJ8.out; first | omega | exact Nat.le_refl _⟩, ⟨by (with_reducible repeat (first | apply Kd.R_alloc | apply Kd.R_drewN | apply Kd.R_drew)); exact HO_12.out⟩, ⟨by (with_reducible repeat (first | apply Kd.R_alloc | apply Kd.R_drewN | apply Kd.R_drew)); exact HO_13.out⟩, ⟨by repeat (first | (with_reducible first | exact HB.out | apply below_alloc | apply pw_below_drewN | apply below_drew1) | exact HB.out)⟩⟩
            case rest =>
              clear HC20
              try clear c1
              try clear c2
              try clear p2
              try clear p4
              try clear q4
              try clear hx4
              try clear p6
              try clear c7
              try clear c9
              try clear c12
              try clear c12b0
              try clear c12b1
              try clear c17
              try clear c17b0
              try clear c18
              try clear c18b0
              try clear c22
              try clear c22b0
              try clear c22b1
              try clear hx487_0
              try clear p2
              try clear p487
              try clear p6
              try clear q487
              obtain ⟨kq, x16_19, rfl, HA, HJ19, HO_12, HO_13, HB⟩ := hcut
              cases kq with
              | zero => exact absurd HA.out (by simp [dialtonelaw24_RouteMoves.j1])
              | succ kj19 =>
                have H := HA.out
                clear HA
                simp only [dialtonelaw24_RouteMoves.j1] at H
                obtain ⟨y490, hy490⟩ : ∃ y_ : List Int, y_ = (([] : List Int)) := ⟨_, rfl⟩
                replace H : (if y490.length + t477.length < 17592186044416 then ((some (y490 ++ t477 : List Int)).bind fun y493 => (if y493.length < 17592186044416 then ((some (([] : List Int) : List Int)).bind fun y499 => (if y499.length + x13_8.length < 17592186044416 then ((some (([(rd t477 (ji16)), x16_19] : List Int) : List Int)).bind fun y505 => (dialtonelaw24_RouteMoves.l0 kj19 a4 t477 x13_8 x14_8 (rd t477 (ji16)) x16_19 (y493 ++ [x16_19]) (y499 ++ x13_8) y505 (y505.length : Int) 0)) else (none))) else (none))) else (none)) = some r := by first | (rw [hy490]; with_reducible exact H) | (have H2_ := (Option.bind_some _ _).symm.trans H; rw [hy490]; with_reducible exact H2_) | (have H2_ := (Option.bind_some _ _).symm.trans H; with_reducible exact H2_) | with_reducible exact H | (rw [hy490]; exact H) | exact H
                have Ny490 := Aside0.mk hy490
                clear hy490
                by_cases c24 : y490.length + t477.length < 17592186044416
                · rw [if_pos c24] at H
                  have LMc24 := Aside0.mk c24
                  clear c24
                  obtain ⟨y493, hy493⟩ : ∃ y_ : List Int, y_ = (y490 ++ t477) := ⟨_, rfl⟩
                  replace H : (if y493.length < 17592186044416 then ((some (([] : List Int) : List Int)).bind fun y499 => (if y499.length + x13_8.length < 17592186044416 then ((some (([(rd t477 (ji16)), x16_19] : List Int) : List Int)).bind fun y505 => (dialtonelaw24_RouteMoves.l0 kj19 a4 t477 x13_8 x14_8 (rd t477 (ji16)) x16_19 (y493 ++ [x16_19]) (y499 ++ x13_8) y505 (y505.length : Int) 0)) else (none))) else (none)) = some r := by first | (rw [hy493]; with_reducible exact H) | (have H2_ := (Option.bind_some _ _).symm.trans H; rw [hy493]; with_reducible exact H2_) | (have H2_ := (Option.bind_some _ _).symm.trans H; with_reducible exact H2_) | with_reducible exact H | (rw [hy493]; exact H) | exact H
                  have Ny493 := Aside0.mk hy493
                  clear hy493
                  by_cases c25 : y493.length < 17592186044416
                  · rw [if_pos c25] at H
                    have LMc25 := Aside0.mk c25
                    clear c25
                    obtain ⟨y496, hy496⟩ : ∃ y_ : List Int, y_ = (y493 ++ [x16_19]) := ⟨_, rfl⟩
                    replace H : ((some (([] : List Int) : List Int)).bind fun y499 => (if y499.length + x13_8.length < 17592186044416 then ((some (([(rd t477 (ji16)), x16_19] : List Int) : List Int)).bind fun y505 => (dialtonelaw24_RouteMoves.l0 kj19 a4 t477 x13_8 x14_8 (rd t477 (ji16)) x16_19 y496 (y499 ++ x13_8) y505 (y505.length : Int) 0)) else (none))) = some r := by first | (rw [hy496]; with_reducible exact H) | (have H2_ := (Option.bind_some _ _).symm.trans H; rw [hy496]; with_reducible exact H2_) | (have H2_ := (Option.bind_some _ _).symm.trans H; with_reducible exact H2_) | with_reducible exact H | (rw [hy496]; exact H) | exact H
                    have Ny496 := Aside0.mk hy496
                    clear hy496
                    obtain ⟨y499, hy499⟩ : ∃ y_ : List Int, y_ = (([] : List Int)) := ⟨_, rfl⟩
                    replace H : (if y499.length + x13_8.length < 17592186044416 then ((some (([(rd t477 (ji16)), x16_19] : List Int) : List Int)).bind fun y505 => (dialtonelaw24_RouteMoves.l0 kj19 a4 t477 x13_8 x14_8 (rd t477 (ji16)) x16_19 y496 (y499 ++ x13_8) y505 (y505.length : Int) 0)) else (none)) = some r := by first | (rw [hy499]; with_reducible exact H) | (have H2_ := (Option.bind_some _ _).symm.trans H; rw [hy499]; with_reducible exact H2_) | (have H2_ := (Option.bind_some _ _).symm.trans H; with_reducible exact H2_) | with_reducible exact H | (rw [hy499]; exact H) | exact H
                    have Ny499 := Aside0.mk hy499
                    clear hy499
                    by_cases c26 : y499.length + x13_8.length < 17592186044416
                    · rw [if_pos c26] at H
                      have LMc26 := Aside0.mk c26
                      clear c26
                      obtain ⟨y502, hy502⟩ : ∃ y_ : List Int, y_ = (y499 ++ x13_8) := ⟨_, rfl⟩
                      replace H : ((some (([(rd t477 (ji16)), x16_19] : List Int) : List Int)).bind fun y505 => (dialtonelaw24_RouteMoves.l0 kj19 a4 t477 x13_8 x14_8 (rd t477 (ji16)) x16_19 y496 y502 y505 (y505.length : Int) 0)) = some r := by first | (rw [hy502]; with_reducible exact H) | (have H2_ := (Option.bind_some _ _).symm.trans H; rw [hy502]; with_reducible exact H2_) | (have H2_ := (Option.bind_some _ _).symm.trans H; with_reducible exact H2_) | with_reducible exact H | (rw [hy502]; exact H) | exact H
                      have Ny502 := Aside0.mk hy502
                      clear hy502
                      obtain ⟨y505, hy505⟩ : ∃ y_ : List Int, y_ = (([(rd t477 (ji16)), x16_19] : List Int)) := ⟨_, rfl⟩
                      replace H : (dialtonelaw24_RouteMoves.l0 kj19 a4 t477 x13_8 x14_8 (rd t477 (ji16)) x16_19 y496 y502 y505 (y505.length : Int) 0) = some r := by first | (rw [hy505]; with_reducible exact H) | (have H2_ := (Option.bind_some _ _).symm.trans H; rw [hy505]; with_reducible exact H2_) | (have H2_ := (Option.bind_some _ _).symm.trans H; with_reducible exact H2_) | with_reducible exact H | (rw [hy505]; exact H) | exact H
                      have Ny505 := Aside0.mk hy505
                      clear hy505
                      have H' := Aside0.mk H
                      clear H
                      go_wp2_with (first | ((with_reducible refine gate_dst (N := 64) rfl ?_); refine Kd.R_lit (Kd.int .i64) _ 3 ?hg (N := 64) ?hd (xs := ([] : List Int)) (inner := []) (ok := fun _ => True) (okp := fun _ => True) ?hr ?hp (fun _ hk => hk) trivial (Below.refl _ _) (Nat.le_refl _) (by simp) ?_; (case hd => rfl); (case hg => rfl); (case hr => first | (go_simp; done) | (go_simp; rfl)); (case hp => exact (Reps.none _ _)); intro v491 w27 ho28 hb hg_ hnew_; clear hg_ hnew_; (first | rw [← Ny490.out] at ho28 | (simp only [Int.reduceToNat] at ho28; rw [← Ny490.out] at ho28)); have n0_ := Aside0.mk (Kd.R_elder' (by (with_reducible repeat (first | apply Kd.R_alloc | apply Kd.R_drewN | apply Kd.R_drew)); exact HO_12.out) (Kd.R_base ho28) hb); have n1_ := Aside0.mk (Kd.R_elder' (by (with_reducible repeat (first | apply Kd.R_alloc | apply Kd.R_drewN | apply Kd.R_drew)); exact HO_13.out) (Kd.R_base ho28) hb); have n2_ := Aside0.mk (Kd.R_lower (Kd.R_new' (Kd.R_new' ho28 (Kd.R_lt (by (with_reducible repeat (first | apply Kd.R_alloc | apply Kd.R_drewN | apply Kd.R_drew)); exact HO_12.out))) (Kd.R_lt (by (with_reducible repeat (first | apply Kd.R_alloc | apply Kd.R_drewN | apply Kd.R_drew)); exact HO_13.out))) (below_size (by repeat (first | (with_reducible first | exact HB.out | apply below_alloc | apply pw_below_drewN | apply below_drew1) | exact HB.out)))); have n3_ := Aside0.mk (below_step (by repeat (first | (with_reducible first | exact HB.out | apply below_alloc | apply pw_below_drewN | apply below_drew1) | exact HB.out)) hb); clear HO_12; clear HO_13; clear HB; have HO_12 := n0_; have HO_13 := n1_; have HO492 := n2_; have HB := n3_; clear n0_ n1_ n2_ n3_; clear hb ho28) | ((with_reducible refine gate_builtin (b := .append) (xs := #[.tmp 64, .tmp 65]) rfl ?_); at_builtin; refine Kd.R_append_rows (Kd.int .i64) (w0 := w) w.heap.size rfl (.tmp 64) (.tmp 65) 22 3 (.int .i64 0) 8 rfl Try.underlying22 info3 rfl (by decide) (by omega) v491 y490 t477 _ _ _ (fun k_ => some k_ ≠ (.slice (some ad487) t477.length co21 : Value).ownBlock ∧ some k_ ≠ (u13 : Value).ownBlock) (fun _ => False) rfl rfl ?aO ?aR (fun _ _ h => h) (fun _ h => h.elim) ?aF ?aB ?aS ?aL ?_; (case aR => repeat (first | exact (Kd.R_reads' HO_12.out).2.2 | (with_reducible refine Kd.C_alloc ?_ _) | (with_reducible refine Kd.C_drewN ?_ _) | (with_reducible refine Kd.C_drew ?_))); (case aB => exact (by repeat (first | (with_reducible first | exact HB.out | apply below_alloc | apply pw_below_drewN | apply below_drew1) | exact HB.out))); (case aF => exact (fun k_ hk => ⟨Kd.fresh' (Kd.R_lt (by (with_reducible repeat (first | apply Kd.R_alloc | apply Kd.R_drewN | apply Kd.R_drew)); exact HO_12.out)) k_ hk, Kd.fresh' (Kd.R_lt (by (with_reducible repeat (first | apply Kd.R_alloc | apply Kd.R_drewN | apply Kd.R_drew)); exact HO_13.out)) k_ hk⟩)); (case aO => exact (by (with_reducible repeat (first | apply Kd.R_alloc | apply Kd.R_drewN | apply Kd.R_drew)); exact Kd.R_mono HO492.out (fun _ hk => ⟨hk.1.2, hk.2⟩))); (case aS => exact (below_size (by repeat (first | (with_reducible first | exact HB.out | apply below_alloc | apply pw_below_drewN | apply below_drew1) | exact HB.out)))); (case aL => have := LMc24.out; omega); intro v494 w29 ho hb hg hat; rw [← Ny493.out] at ho; have n0_ := Aside0.mk (Kd.R_after (ok := (fun k_ => some k_ ≠ (u13 : Value).ownBlock)) (by (with_reducible repeat (first | apply Kd.R_alloc | apply Kd.R_drewN | apply Kd.R_drew)); exact HO_12.out) hg hat); have n1_ := Aside0.mk (Kd.R_after (ok := (fun k_ => some k_ ≠ (.slice (some ad487) t477.length co21 : Value).ownBlock)) (by (with_reducible repeat (first | apply Kd.R_alloc | apply Kd.R_drewN | apply Kd.R_drew)); exact HO_13.out) hg hat); have n2_ := Aside0.mk (hb); have n3_ := Aside0.mk (ho); clear HO_12; clear HO_13; clear HB; clear HO492; have HO_12 := n0_; have HO_13 := n1_; have HB := n2_; have HO495 := n3_; clear n0_ n1_ n2_ n3_; clear ho hb hg hat) | ((with_reducible refine gate_builtin (b := .append) (xs := #[.tmp 66, .tmp 68]) rfl ?_); at_builtin; refine Kd.R_append (Kd.int .i64) (w0 := w) w.heap.size rfl (.tmp 66) (.tmp 68) 22 3 (.int .i64 0) 8 rfl Try.underlying22 info3 rfl (by decide) (by omega) v494 y493 x16_19 [.int .i64 x16_19] (fun k_ => some k_ ≠ (.slice (some ad487) t477.length co21 : Value).ownBlock ∧ some k_ ≠ (u13 : Value).ownBlock) (fun _ => False) rfl rfl ?aP (fun _ hk => hk.elim) ?aF ?aO ?aB ?aS ?aL ?_; (case aP => exact rfl); (case aB => exact (by repeat (first | (with_reducible first | exact HB.out | apply below_alloc | apply pw_below_drewN | apply below_drew1) | exact HB.out))); (case aF => exact (fun k_ hk => ⟨Kd.fresh' (Kd.R_lt (by (with_reducible repeat (first | apply Kd.R_alloc | apply Kd.R_drewN | apply Kd.R_drew)); exact HO_12.out)) k_ hk, Kd.fresh' (Kd.R_lt (by (with_reducible repeat (first | apply Kd.R_alloc | apply Kd.R_drewN | apply Kd.R_drew)); exact HO_13.out)) k_ hk⟩)); (case aO => exact (by (with_reducible repeat (first | apply Kd.R_alloc | apply Kd.R_drewN | apply Kd.R_drew)); exact HO495.out)); (case aS => exact (below_size (by repeat (first | (with_reducible first | exact HB.out | apply below_alloc | apply pw_below_drewN | apply below_drew1) | exact HB.out)))); (case aL => have := LMc25.out; omega); intro v497 w30 ho hb hg hat; rw [← Ny496.out] at ho; have n0_ := Aside0.mk (Kd.R_after (ok := (fun k_ => some k_ ≠ (u13 : Value).ownBlock)) (by (with_reducible repeat (first | apply Kd.R_alloc | apply Kd.R_drewN | apply Kd.R_drew)); exact HO_12.out) hg hat); have n1_ := Aside0.mk (Kd.R_after (ok := (fun k_ => some k_ ≠ (.slice (some ad487) t477.length co21 : Value).ownBlock)) (by (with_reducible repeat (first | apply Kd.R_alloc | apply Kd.R_drewN | apply Kd.R_drew)); exact HO_13.out) hg hat); have n2_ := Aside0.mk (hb); have n3_ := Aside0.mk (ho); clear HO_12; clear HO_13; clear HB; clear HO495; have HO_12 := n0_; have HO_13 := n1_; have HB := n2_; have HO498 := n3_; clear n0_ n1_ n2_ n3_; clear ho hb hg hat) | ((with_reducible refine gate_dst (N := 70) rfl ?_); refine Kd.R_lit (Kd.int .i64) _ 3 ?hg (N := 70) ?hd (xs := ([] : List Int)) (inner := []) (ok := fun _ => True) (okp := fun _ => True) ?hr ?hp (fun _ hk => hk) trivial (Below.refl _ _) (Nat.le_refl _) (by simp) ?_; (case hd => rfl); (case hg => rfl); (case hr => first | (go_simp; done) | (go_simp; rfl)); (case hp => exact (Reps.none _ _)); intro v500 w31 ho32 hb hg_ hnew_; clear hg_ hnew_; (first | rw [← Ny499.out] at ho32 | (simp only [Int.reduceToNat] at ho32; rw [← Ny499.out] at ho32)); have n0_ := Aside0.mk (Kd.R_elder' (by (with_reducible repeat (first | apply Kd.R_alloc | apply Kd.R_drewN | apply Kd.R_drew)); exact HO_12.out) (Kd.R_base ho32) hb); have n1_ := Aside0.mk (Kd.R_elder' (by (with_reducible repeat (first | apply Kd.R_alloc | apply Kd.R_drewN | apply Kd.R_drew)); exact HO_13.out) (Kd.R_base ho32) hb); have n2_ := Aside0.mk (Kd.R_elder' (by (with_reducible repeat (first | apply Kd.R_alloc | apply Kd.R_drewN | apply Kd.R_drew)); exact HO498.out) (Kd.R_base ho32) hb); have n3_ := Aside0.mk (Kd.R_lower (Kd.R_new' (Kd.R_new' (Kd.R_new' ho32 (Kd.R_lt (by (with_reducible repeat (first | apply Kd.R_alloc | apply Kd.R_drewN | apply Kd.R_drew)); exact HO_12.out))) (Kd.R_lt (by (with_reducible repeat (first | apply Kd.R_alloc | apply Kd.R_drewN | apply Kd.R_drew)); exact HO_13.out))) (Kd.R_lt (by (with_reducible repeat (first | apply Kd.R_alloc | apply Kd.R_drewN | apply Kd.R_drew)); exact HO498.out))) (below_size (by repeat (first | (with_reducible first | exact HB.out | apply below_alloc | apply pw_below_drewN | apply below_drew1) | exact HB.out)))); have n4_ := Aside0.mk (below_step (by repeat (first | (with_reducible first | exact HB.out | apply below_alloc | apply pw_below_drewN | apply below_drew1) | exact HB.out)) hb); clear HO_12; clear HO_13; clear HO498; clear HB; have HO_12 := n0_; have HO_13 := n1_; have HO498 := n2_; have HO501 := n3_; have HB := n4_; clear n0_ n1_ n2_ n3_ n4_; clear hb ho32; obtain ⟨Ao34, co34, eo34⟩ := Kd.R_slice HO_13.out; subst eo34) | ((with_reducible refine gate_builtin (b := .append) (xs := #[.tmp 70, .tmp 71]) rfl ?_); at_builtin; refine Kd.R_append_rows (Kd.int .i64) (w0 := w) w.heap.size rfl (.tmp 70) (.tmp 71) 22 3 (.int .i64 0) 8 rfl Try.underlying22 info3 rfl (by decide) (by omega) v500 y499 x13_8 _ _ _ (fun k_ => some k_ ≠ (.slice (some ad487) t477.length co21 : Value).ownBlock ∧ some k_ ≠ (.slice Ao34 x13_8.length co34 : Value).ownBlock ∧ some k_ ≠ (v497 : Value).ownBlock) (fun _ => False) rfl rfl ?aO ?aR (fun _ _ h => h) (fun _ h => h.elim) ?aF ?aB ?aS ?aL ?_; (case aR => repeat (first | exact (Kd.R_reads' HO_13.out).2.2 | (with_reducible refine Kd.C_alloc ?_ _) | (with_reducible refine Kd.C_drewN ?_ _) | (with_reducible refine Kd.C_drew ?_))); (case aB => exact (by repeat (first | (with_reducible first | exact HB.out | apply below_alloc | apply pw_below_drewN | apply below_drew1) | exact HB.out))); (case aF => exact (fun k_ hk => ⟨Kd.fresh' (Kd.R_lt (by (with_reducible repeat (first | apply Kd.R_alloc | apply Kd.R_drewN | apply Kd.R_drew)); exact HO_12.out)) k_ hk, Kd.fresh' (Kd.R_lt (by (with_reducible repeat (first | apply Kd.R_alloc | apply Kd.R_drewN | apply Kd.R_drew)); exact HO_13.out)) k_ hk, Kd.fresh' (Kd.R_lt (by (with_reducible repeat (first | apply Kd.R_alloc | apply Kd.R_drewN | apply Kd.R_drew)); exact HO498.out)) k_ hk⟩)); (case aO => exact (by (with_reducible repeat (first | apply Kd.R_alloc | apply Kd.R_drewN | apply Kd.R_drew)); exact Kd.R_mono HO501.out (fun _ hk => ⟨hk.1.1.2, ⟨hk.1.2, hk.2⟩⟩))); (case aS => exact (below_size (by repeat (first | (with_reducible first | exact HB.out | apply below_alloc | apply pw_below_drewN | apply below_drew1) | exact HB.out)))); (case aL => have := LMc26.out; omega); intro v503 w33 ho hb hg hat; rw [← Ny502.out] at ho; have n0_ := Aside0.mk (Kd.R_after (ok := (fun k_ => some k_ ≠ (.slice Ao34 x13_8.length co34 : Value).ownBlock ∧ some k_ ≠ (v497 : Value).ownBlock)) (by (with_reducible repeat (first | apply Kd.R_alloc | apply Kd.R_drewN | apply Kd.R_drew)); exact HO_12.out) hg hat); have n1_ := Aside0.mk (Kd.R_after (ok := (fun k_ => some k_ ≠ (.slice (some ad487) t477.length co21 : Value).ownBlock ∧ some k_ ≠ (v497 : Value).ownBlock)) (by (with_reducible repeat (first | apply Kd.R_alloc | apply Kd.R_drewN | apply Kd.R_drew)); exact HO_13.out) hg hat); have n2_ := Aside0.mk (Kd.R_after (ok := (fun k_ => some k_ ≠ (.slice (some ad487) t477.length co21 : Value).ownBlock ∧ some k_ ≠ (.slice Ao34 x13_8.length co34 : Value).ownBlock)) (by (with_reducible repeat (first | apply Kd.R_alloc | apply Kd.R_drewN | apply Kd.R_drew)); exact HO498.out) hg hat); have n3_ := Aside0.mk (hb); have n4_ := Aside0.mk (ho); clear HO_12; clear HO_13; clear HO498; clear HB; clear HO501; have HO_12 := n0_; have HO_13 := n1_; have HO498 := n2_; have HB := n3_; have HO504 := n4_; clear n0_ n1_ n2_ n3_ n4_; clear ho hb hg hat) | ((with_reducible refine gate_dst (N := 75) rfl ?_); refine Kd.R_lit (Kd.int .i64) _ 3 ?hg (N := 75) ?hd (xs := ([(rd t477 (ji16)), x16_19] : List Int)) (inner := [.int .i64 (rd t477 (ji16)), .int .i64 x16_19]) (ok := fun _ => True) (okp := fun _ => True) ?hr ?hp (fun _ hk => hk) trivial (Below.refl _ _) (Nat.le_refl _) (by simp) ?_; (case hd => rfl); (case hg => rfl); (case hr => first | (go_simp; done) | (go_simp; rfl)); (case hp => exact (Reps.one (show Kd.M (Kd.int .i64) _ _ _ (rd t477 (ji16)) [.int .i64 (rd t477 (ji16))] from rfl) (Reps.one (show Kd.M (Kd.int .i64) _ _ _ x16_19 [.int .i64 x16_19] from rfl) (Reps.none _ _)))); intro v506 w35 ho36 hb hg_ hnew_; clear hg_ hnew_; (first | rw [← Ny505.out] at ho36 | (simp only [Int.reduceToNat] at ho36; rw [← Ny505.out] at ho36)); have n0_ := Aside0.mk (Kd.R_elder' (by (with_reducible repeat (first | apply Kd.R_alloc | apply Kd.R_drewN | apply Kd.R_drew)); exact HO_12.out) (Kd.R_base ho36) hb); have n1_ := Aside0.mk (Kd.R_elder' (by (with_reducible repeat (first | apply Kd.R_alloc | apply Kd.R_drewN | apply Kd.R_drew)); exact HO_13.out) (Kd.R_base ho36) hb); have n2_ := Aside0.mk (Kd.R_elder' (by (with_reducible repeat (first | apply Kd.R_alloc | apply Kd.R_drewN | apply Kd.R_drew)); exact HO498.out) (Kd.R_base ho36) hb); have n3_ := Aside0.mk (Kd.R_elder' (by (with_reducible repeat (first | apply Kd.R_alloc | apply Kd.R_drewN | apply Kd.R_drew)); exact HO504.out) (Kd.R_base ho36) hb); have n4_ := Aside0.mk (Kd.R_lower (Kd.R_new' (Kd.R_new' (Kd.R_new' (Kd.R_new' ho36 (Kd.R_lt (by (with_reducible repeat (first | apply Kd.R_alloc | apply Kd.R_drewN | apply Kd.R_drew)); exact HO_12.out))) (Kd.R_lt (by (with_reducible repeat (first | apply Kd.R_alloc | apply Kd.R_drewN | apply Kd.R_drew)); exact HO_13.out))) (Kd.R_lt (by (with_reducible repeat (first | apply Kd.R_alloc | apply Kd.R_drewN | apply Kd.R_drew)); exact HO498.out))) (Kd.R_lt (by (with_reducible repeat (first | apply Kd.R_alloc | apply Kd.R_drewN | apply Kd.R_drew)); exact HO504.out))) (below_size (by repeat (first | (with_reducible first | exact HB.out | apply below_alloc | apply pw_below_drewN | apply below_drew1) | exact HB.out)))); have n5_ := Aside0.mk (below_step (by repeat (first | (with_reducible first | exact HB.out | apply below_alloc | apply pw_below_drewN | apply below_drew1) | exact HB.out)) hb); clear HO_12; clear HO_13; clear HO498; clear HO504; clear HB; have HO_12 := n0_; have HO_13 := n1_; have HO498 := n2_; have HO504 := n3_; have HO507 := n4_; have HB := n5_; clear n0_ n1_ n2_ n3_ n4_ n5_; clear hb ho36; obtain ⟨Ao37, co37, eo37⟩ := Kd.R_slice HO507.out; subst eo37))
                      repeat (go_quiet (first | ((with_reducible refine gate_dst (N := 64) rfl ?_); refine Kd.R_lit (Kd.int .i64) _ 3 ?hg (N := 64) ?hd (xs := ([] : List Int)) (inner := []) (ok := fun _ => True) (okp := fun _ => True) ?hr ?hp (fun _ hk => hk) trivial (Below.refl _ _) (Nat.le_refl _) (by simp) ?_; (case hd => rfl); (case hg => rfl); (case hr => first | (go_simp; done) | (go_simp; rfl)); (case hp => exact (Reps.none _ _)); intro v491 w27 ho28 hb hg_ hnew_; clear hg_ hnew_; (first | rw [← Ny490.out] at ho28 | (simp only [Int.reduceToNat] at ho28; rw [← Ny490.out] at ho28)); have n0_ := Aside0.mk (Kd.R_elder' (by (with_reducible repeat (first | apply Kd.R_alloc | apply Kd.R_drewN | apply Kd.R_drew)); exact HO_12.out) (Kd.R_base ho28) hb); have n1_ := Aside0.mk (Kd.R_elder' (by (with_reducible repeat (first | apply Kd.R_alloc | apply Kd.R_drewN | apply Kd.R_drew)); exact HO_13.out) (Kd.R_base ho28) hb); have n2_ := Aside0.mk (Kd.R_lower (Kd.R_new' (Kd.R_new' ho28 (Kd.R_lt (by (with_reducible repeat (first | apply Kd.R_alloc | apply Kd.R_drewN | apply Kd.R_drew)); exact HO_12.out))) (Kd.R_lt (by (with_reducible repeat (first | apply Kd.R_alloc | apply Kd.R_drewN | apply Kd.R_drew)); exact HO_13.out))) (below_size (by repeat (first | (with_reducible first | exact HB.out | apply below_alloc | apply pw_below_drewN | apply below_drew1) | exact HB.out)))); have n3_ := Aside0.mk (below_step (by repeat (first | (with_reducible first | exact HB.out | apply below_alloc | apply pw_below_drewN | apply below_drew1) | exact HB.out)) hb); clear HO_12; clear HO_13; clear HB; have HO_12 := n0_; have HO_13 := n1_; have HO492 := n2_; have HB := n3_; clear n0_ n1_ n2_ n3_; clear hb ho28) | ((with_reducible refine gate_builtin (b := .append) (xs := #[.tmp 64, .tmp 65]) rfl ?_); at_builtin; refine Kd.R_append_rows (Kd.int .i64) (w0 := w) w.heap.size rfl (.tmp 64) (.tmp 65) 22 3 (.int .i64 0) 8 rfl Try.underlying22 info3 rfl (by decide) (by omega) v491 y490 t477 _ _ _ (fun k_ => some k_ ≠ (.slice (some ad487) t477.length co21 : Value).ownBlock ∧ some k_ ≠ (u13 : Value).ownBlock) (fun _ => False) rfl rfl ?aO ?aR (fun _ _ h => h) (fun _ h => h.elim) ?aF ?aB ?aS ?aL ?_; (case aR => repeat (first | exact (Kd.R_reads' HO_12.out).2.2 | (with_reducible refine Kd.C_alloc ?_ _) | (with_reducible refine Kd.C_drewN ?_ _) | (with_reducible refine Kd.C_drew ?_))); (case aB => exact (by repeat (first | (with_reducible first | exact HB.out | apply below_alloc | apply pw_below_drewN | apply below_drew1) | exact HB.out))); (case aF => exact (fun k_ hk => ⟨Kd.fresh' (Kd.R_lt (by (with_reducible repeat (first | apply Kd.R_alloc | apply Kd.R_drewN | apply Kd.R_drew)); exact HO_12.out)) k_ hk, Kd.fresh' (Kd.R_lt (by (with_reducible repeat (first | apply Kd.R_alloc | apply Kd.R_drewN | apply Kd.R_drew)); exact HO_13.out)) k_ hk⟩)); (case aO => exact (by (with_reducible repeat (first | apply Kd.R_alloc | apply Kd.R_drewN | apply Kd.R_drew)); exact Kd.R_mono HO492.out (fun _ hk => ⟨hk.1.2, hk.2⟩))); (case aS => exact (below_size (by repeat (first | (with_reducible first | exact HB.out | apply below_alloc | apply pw_below_drewN | apply below_drew1) | exact HB.out)))); (case aL => have := LMc24.out; omega); intro v494 w29 ho hb hg hat; rw [← Ny493.out] at ho; have n0_ := Aside0.mk (Kd.R_after (ok := (fun k_ => some k_ ≠ (u13 : Value).ownBlock)) (by (with_reducible repeat (first | apply Kd.R_alloc | apply Kd.R_drewN | apply Kd.R_drew)); exact HO_12.out) hg hat); have n1_ := Aside0.mk (Kd.R_after (ok := (fun k_ => some k_ ≠ (.slice (some ad487) t477.length co21 : Value).ownBlock)) (by (with_reducible repeat (first | apply Kd.R_alloc | apply Kd.R_drewN | apply Kd.R_drew)); exact HO_13.out) hg hat); have n2_ := Aside0.mk (hb); have n3_ := Aside0.mk (ho); clear HO_12; clear HO_13; clear HB; clear HO492; have HO_12 := n0_; have HO_13 := n1_; have HB := n2_; have HO495 := n3_; clear n0_ n1_ n2_ n3_; clear ho hb hg hat) | ((with_reducible refine gate_builtin (b := .append) (xs := #[.tmp 66, .tmp 68]) rfl ?_); at_builtin; refine Kd.R_append (Kd.int .i64) (w0 := w) w.heap.size rfl (.tmp 66) (.tmp 68) 22 3 (.int .i64 0) 8 rfl Try.underlying22 info3 rfl (by decide) (by omega) v494 y493 x16_19 [.int .i64 x16_19] (fun k_ => some k_ ≠ (.slice (some ad487) t477.length co21 : Value).ownBlock ∧ some k_ ≠ (u13 : Value).ownBlock) (fun _ => False) rfl rfl ?aP (fun _ hk => hk.elim) ?aF ?aO ?aB ?aS ?aL ?_; (case aP => exact rfl); (case aB => exact (by repeat (first | (with_reducible first | exact HB.out | apply below_alloc | apply pw_below_drewN | apply below_drew1) | exact HB.out))); (case aF => exact (fun k_ hk => ⟨Kd.fresh' (Kd.R_lt (by (with_reducible repeat (first | apply Kd.R_alloc | apply Kd.R_drewN | apply Kd.R_drew)); exact HO_12.out)) k_ hk, Kd.fresh' (Kd.R_lt (by (with_reducible repeat (first | apply Kd.R_alloc | apply Kd.R_drewN | apply Kd.R_drew)); exact HO_13.out)) k_ hk⟩)); (case aO => exact (by (with_reducible repeat (first | apply Kd.R_alloc | apply Kd.R_drewN | apply Kd.R_drew)); exact HO495.out)); (case aS => exact (below_size (by repeat (first | (with_reducible first | exact HB.out | apply below_alloc | apply pw_below_drewN | apply below_drew1) | exact HB.out)))); (case aL => have := LMc25.out; omega); intro v497 w30 ho hb hg hat; rw [← Ny496.out] at ho; have n0_ := Aside0.mk (Kd.R_after (ok := (fun k_ => some k_ ≠ (u13 : Value).ownBlock)) (by (with_reducible repeat (first | apply Kd.R_alloc | apply Kd.R_drewN | apply Kd.R_drew)); exact HO_12.out) hg hat); have n1_ := Aside0.mk (Kd.R_after (ok := (fun k_ => some k_ ≠ (.slice (some ad487) t477.length co21 : Value).ownBlock)) (by (with_reducible repeat (first | apply Kd.R_alloc | apply Kd.R_drewN | apply Kd.R_drew)); exact HO_13.out) hg hat); have n2_ := Aside0.mk (hb); have n3_ := Aside0.mk (ho); clear HO_12; clear HO_13; clear HB; clear HO495; have HO_12 := n0_; have HO_13 := n1_; have HB := n2_; have HO498 := n3_; clear n0_ n1_ n2_ n3_; clear ho hb hg hat) | ((with_reducible refine gate_dst (N := 70) rfl ?_); refine Kd.R_lit (Kd.int .i64) _ 3 ?hg (N := 70) ?hd (xs := ([] : List Int)) (inner := []) (ok := fun _ => True) (okp := fun _ => True) ?hr ?hp (fun _ hk => hk) trivial (Below.refl _ _) (Nat.le_refl _) (by simp) ?_; (case hd => rfl); (case hg => rfl); (case hr => first | (go_simp; done) | (go_simp; rfl)); (case hp => exact (Reps.none _ _)); intro v500 w31 ho32 hb hg_ hnew_; clear hg_ hnew_; (first | rw [← Ny499.out] at ho32 | (simp only [Int.reduceToNat] at ho32; rw [← Ny499.out] at ho32)); have n0_ := Aside0.mk (Kd.R_elder' (by (with_reducible repeat (first | apply Kd.R_alloc | apply Kd.R_drewN | apply Kd.R_drew)); exact HO_12.out) (Kd.R_base ho32) hb); have n1_ := Aside0.mk (Kd.R_elder' (by (with_reducible repeat (first | apply Kd.R_alloc | apply Kd.R_drewN | apply Kd.R_drew)); exact HO_13.out) (Kd.R_base ho32) hb); have n2_ := Aside0.mk (Kd.R_elder' (by (with_reducible repeat (first | apply Kd.R_alloc | apply Kd.R_drewN | apply Kd.R_drew)); exact HO498.out) (Kd.R_base ho32) hb); have n3_ := Aside0.mk (Kd.R_lower (Kd.R_new' (Kd.R_new' (Kd.R_new' ho32 (Kd.R_lt (by (with_reducible repeat (first | apply Kd.R_alloc | apply Kd.R_drewN | apply Kd.R_drew)); exact HO_12.out))) (Kd.R_lt (by (with_reducible repeat (first | apply Kd.R_alloc | apply Kd.R_drewN | apply Kd.R_drew)); exact HO_13.out))) (Kd.R_lt (by (with_reducible repeat (first | apply Kd.R_alloc | apply Kd.R_drewN | apply Kd.R_drew)); exact HO498.out))) (below_size (by repeat (first | (with_reducible first | exact HB.out | apply below_alloc | apply pw_below_drewN | apply below_drew1) | exact HB.out)))); have n4_ := Aside0.mk (below_step (by repeat (first | (with_reducible first | exact HB.out | apply below_alloc | apply pw_below_drewN | apply below_drew1) | exact HB.out)) hb); clear HO_12; clear HO_13; clear HO498; clear HB; have HO_12 := n0_; have HO_13 := n1_; have HO498 := n2_; have HO501 := n3_; have HB := n4_; clear n0_ n1_ n2_ n3_ n4_; clear hb ho32; obtain ⟨Ao34, co34, eo34⟩ := Kd.R_slice HO_13.out; subst eo34) | ((with_reducible refine gate_builtin (b := .append) (xs := #[.tmp 70, .tmp 71]) rfl ?_); at_builtin; refine Kd.R_append_rows (Kd.int .i64) (w0 := w) w.heap.size rfl (.tmp 70) (.tmp 71) 22 3 (.int .i64 0) 8 rfl Try.underlying22 info3 rfl (by decide) (by omega) v500 y499 x13_8 _ _ _ (fun k_ => some k_ ≠ (.slice (some ad487) t477.length co21 : Value).ownBlock ∧ some k_ ≠ (.slice Ao34 x13_8.length co34 : Value).ownBlock ∧ some k_ ≠ (v497 : Value).ownBlock) (fun _ => False) rfl rfl ?aO ?aR (fun _ _ h => h) (fun _ h => h.elim) ?aF ?aB ?aS ?aL ?_; (case aR => repeat (first | exact (Kd.R_reads' HO_13.out).2.2 | (with_reducible refine Kd.C_alloc ?_ _) | (with_reducible refine Kd.C_drewN ?_ _) | (with_reducible refine Kd.C_drew ?_))); (case aB => exact (by repeat (first | (with_reducible first | exact HB.out | apply below_alloc | apply pw_below_drewN | apply below_drew1) | exact HB.out))); (case aF => exact (fun k_ hk => ⟨Kd.fresh' (Kd.R_lt (by (with_reducible repeat (first | apply Kd.R_alloc | apply Kd.R_drewN | apply Kd.R_drew)); exact HO_12.out)) k_ hk, Kd.fresh' (Kd.R_lt (by (with_reducible repeat (first | apply Kd.R_alloc | apply Kd.R_drewN | apply Kd.R_drew)); exact HO_13.out)) k_ hk, Kd.fresh' (Kd.R_lt (by (with_reducible repeat (first | apply Kd.R_alloc | apply Kd.R_drewN | apply Kd.R_drew)); exact HO498.out)) k_ hk⟩)); (case aO => exact (by (with_reducible repeat (first | apply Kd.R_alloc | apply Kd.R_drewN | apply Kd.R_drew)); exact Kd.R_mono HO501.out (fun _ hk => ⟨hk.1.1.2, ⟨hk.1.2, hk.2⟩⟩))); (case aS => exact (below_size (by repeat (first | (with_reducible first | exact HB.out | apply below_alloc | apply pw_below_drewN | apply below_drew1) | exact HB.out)))); (case aL => have := LMc26.out; omega); intro v503 w33 ho hb hg hat; rw [← Ny502.out] at ho; have n0_ := Aside0.mk (Kd.R_after (ok := (fun k_ => some k_ ≠ (.slice Ao34 x13_8.length co34 : Value).ownBlock ∧ some k_ ≠ (v497 : Value).ownBlock)) (by (with_reducible repeat (first | apply Kd.R_alloc | apply Kd.R_drewN | apply Kd.R_drew)); exact HO_12.out) hg hat); have n1_ := Aside0.mk (Kd.R_after (ok := (fun k_ => some k_ ≠ (.slice (some ad487) t477.length co21 : Value).ownBlock ∧ some k_ ≠ (v497 : Value).ownBlock)) (by (with_reducible repeat (first | apply Kd.R_alloc | apply Kd.R_drewN | apply Kd.R_drew)); exact HO_13.out) hg hat); have n2_ := Aside0.mk (Kd.R_after (ok := (fun k_ => some k_ ≠ (.slice (some ad487) t477.length co21 : Value).ownBlock ∧ some k_ ≠ (.slice Ao34 x13_8.length co34 : Value).ownBlock)) (by (with_reducible repeat (first | apply Kd.R_alloc | apply Kd.R_drewN | apply Kd.R_drew)); exact HO498.out) hg hat); have n3_ := Aside0.mk (hb); have n4_ := Aside0.mk (ho); clear HO_12; clear HO_13; clear HO498; clear HB; clear HO501; have HO_12 := n0_; have HO_13 := n1_; have HO498 := n2_; have HB := n3_; have HO504 := n4_; clear n0_ n1_ n2_ n3_ n4_; clear ho hb hg hat) | ((with_reducible refine gate_dst (N := 75) rfl ?_); refine Kd.R_lit (Kd.int .i64) _ 3 ?hg (N := 75) ?hd (xs := ([(rd t477 (ji16)), x16_19] : List Int)) (inner := [.int .i64 (rd t477 (ji16)), .int .i64 x16_19]) (ok := fun _ => True) (okp := fun _ => True) ?hr ?hp (fun _ hk => hk) trivial (Below.refl _ _) (Nat.le_refl _) (by simp) ?_; (case hd => rfl); (case hg => rfl); (case hr => first | (go_simp; done) | (go_simp; rfl)); (case hp => exact (Reps.one (show Kd.M (Kd.int .i64) _ _ _ (rd t477 (ji16)) [.int .i64 (rd t477 (ji16))] from rfl) (Reps.one (show Kd.M (Kd.int .i64) _ _ _ x16_19 [.int .i64 x16_19] from rfl) (Reps.none _ _)))); intro v506 w35 ho36 hb hg_ hnew_; clear hg_ hnew_; (first | rw [← Ny505.out] at ho36 | (simp only [Int.reduceToNat] at ho36; rw [← Ny505.out] at ho36)); have n0_ := Aside0.mk (Kd.R_elder' (by (with_reducible repeat (first | apply Kd.R_alloc | apply Kd.R_drewN | apply Kd.R_drew)); exact HO_12.out) (Kd.R_base ho36) hb); have n1_ := Aside0.mk (Kd.R_elder' (by (with_reducible repeat (first | apply Kd.R_alloc | apply Kd.R_drewN | apply Kd.R_drew)); exact HO_13.out) (Kd.R_base ho36) hb); have n2_ := Aside0.mk (Kd.R_elder' (by (with_reducible repeat (first | apply Kd.R_alloc | apply Kd.R_drewN | apply Kd.R_drew)); exact HO498.out) (Kd.R_base ho36) hb); have n3_ := Aside0.mk (Kd.R_elder' (by (with_reducible repeat (first | apply Kd.R_alloc | apply Kd.R_drewN | apply Kd.R_drew)); exact HO504.out) (Kd.R_base ho36) hb); have n4_ := Aside0.mk (Kd.R_lower (Kd.R_new' (Kd.R_new' (Kd.R_new' (Kd.R_new' ho36 (Kd.R_lt (by (with_reducible repeat (first | apply Kd.R_alloc | apply Kd.R_drewN | apply Kd.R_drew)); exact HO_12.out))) (Kd.R_lt (by (with_reducible repeat (first | apply Kd.R_alloc | apply Kd.R_drewN | apply Kd.R_drew)); exact HO_13.out))) (Kd.R_lt (by (with_reducible repeat (first | apply Kd.R_alloc | apply Kd.R_drewN | apply Kd.R_drew)); exact HO498.out))) (Kd.R_lt (by (with_reducible repeat (first | apply Kd.R_alloc | apply Kd.R_drewN | apply Kd.R_drew)); exact HO504.out))) (below_size (by repeat (first | (with_reducible first | exact HB.out | apply below_alloc | apply pw_below_drewN | apply below_drew1) | exact HB.out)))); have n5_ := Aside0.mk (below_step (by repeat (first | (with_reducible first | exact HB.out | apply below_alloc | apply pw_below_drewN | apply below_drew1) | exact HB.out)) hb); clear HO_12; clear HO_13; clear HO498; clear HO504; clear HB; have HO_12 := n0_; have HO_13 := n1_; have HO498 := n2_; have HO504 := n3_; have HO507 := n4_; have HB := n5_; clear n0_ n1_ n2_ n3_ n4_ n5_; clear hb ho36; obtain ⟨Ao37, co37, eo37⟩ := Kd.R_slice HO507.out; subst eo37)); try go_wp2_with (first | ((with_reducible refine gate_dst (N := 64) rfl ?_); refine Kd.R_lit (Kd.int .i64) _ 3 ?hg (N := 64) ?hd (xs := ([] : List Int)) (inner := []) (ok := fun _ => True) (okp := fun _ => True) ?hr ?hp (fun _ hk => hk) trivial (Below.refl _ _) (Nat.le_refl _) (by simp) ?_; (case hd => rfl); (case hg => rfl); (case hr => first | (go_simp; done) | (go_simp; rfl)); (case hp => exact (Reps.none _ _)); intro v491 w27 ho28 hb hg_ hnew_; clear hg_ hnew_; (first | rw [← Ny490.out] at ho28 | (simp only [Int.reduceToNat] at ho28; rw [← Ny490.out] at ho28)); have n0_ := Aside0.mk (Kd.R_elder' (by (with_reducible repeat (first | apply Kd.R_alloc | apply Kd.R_drewN | apply Kd.R_drew)); exact HO_12.out) (Kd.R_base ho28) hb); have n1_ := Aside0.mk (Kd.R_elder' (by (with_reducible repeat (first | apply Kd.R_alloc | apply Kd.R_drewN | apply Kd.R_drew)); exact HO_13.out) (Kd.R_base ho28) hb); have n2_ := Aside0.mk (Kd.R_lower (Kd.R_new' (Kd.R_new' ho28 (Kd.R_lt (by (with_reducible repeat (first | apply Kd.R_alloc | apply Kd.R_drewN | apply Kd.R_drew)); exact HO_12.out))) (Kd.R_lt (by (with_reducible repeat (first | apply Kd.R_alloc | apply Kd.R_drewN | apply Kd.R_drew)); exact HO_13.out))) (below_size (by repeat (first | (with_reducible first | exact HB.out | apply below_alloc | apply pw_below_drewN | apply below_drew1) | exact HB.out)))); have n3_ := Aside0.mk (below_step (by repeat (first | (with_reducible first | exact HB.out | apply below_alloc | apply pw_below_drewN | apply below_drew1) | exact HB.out)) hb); clear HO_12; clear HO_13; clear HB; have HO_12 := n0_; have HO_13 := n1_; have HO492 := n2_; have HB := n3_; clear n0_ n1_ n2_ n3_; clear hb ho28) | ((with_reducible refine gate_builtin (b := .append) (xs := #[.tmp 64, .tmp 65]) rfl ?_); at_builtin; refine Kd.R_append_rows (Kd.int .i64) (w0 := w) w.heap.size rfl (.tmp 64) (.tmp 65) 22 3 (.int .i64 0) 8 rfl Try.underlying22 info3 rfl (by decide) (by omega) v491 y490 t477 _ _ _ (fun k_ => some k_ ≠ (.slice (some ad487) t477.length co21 : Value).ownBlock ∧ some k_ ≠ (u13 : Value).ownBlock) (fun _ => False) rfl rfl ?aO ?aR (fun _ _ h => h) (fun _ h => h.elim) ?aF ?aB ?aS ?aL ?_; (case aR => repeat (first | exact (Kd.R_reads' HO_12.out).2.2 | (with_reducible refine Kd.C_alloc ?_ _) | (with_reducible refine Kd.C_drewN ?_ _) | (with_reducible refine Kd.C_drew ?_))); (case aB => exact (by repeat (first | (with_reducible first | exact HB.out | apply below_alloc | apply pw_below_drewN | apply below_drew1) | exact HB.out))); (case aF => exact (fun k_ hk => ⟨Kd.fresh' (Kd.R_lt (by (with_reducible repeat (first | apply Kd.R_alloc | apply Kd.R_drewN | apply Kd.R_drew)); exact HO_12.out)) k_ hk, Kd.fresh' (Kd.R_lt (by (with_reducible repeat (first | apply Kd.R_alloc | apply Kd.R_drewN | apply Kd.R_drew)); exact HO_13.out)) k_ hk⟩)); (case aO => exact (by (with_reducible repeat (first | apply Kd.R_alloc | apply Kd.R_drewN | apply Kd.R_drew)); exact Kd.R_mono HO492.out (fun _ hk => ⟨hk.1.2, hk.2⟩))); (case aS => exact (below_size (by repeat (first | (with_reducible first | exact HB.out | apply below_alloc | apply pw_below_drewN | apply below_drew1) | exact HB.out)))); (case aL => have := LMc24.out; omega); intro v494 w29 ho hb hg hat; rw [← Ny493.out] at ho; have n0_ := Aside0.mk (Kd.R_after (ok := (fun k_ => some k_ ≠ (u13 : Value).ownBlock)) (by (with_reducible repeat (first | apply Kd.R_alloc | apply Kd.R_drewN | apply Kd.R_drew)); exact HO_12.out) hg hat); have n1_ := Aside0.mk (Kd.R_after (ok := (fun k_ => some k_ ≠ (.slice (some ad487) t477.length co21 : Value).ownBlock)) (by (with_reducible repeat (first | apply Kd.R_alloc | apply Kd.R_drewN | apply Kd.R_drew)); exact HO_13.out) hg hat); have n2_ := Aside0.mk (hb); have n3_ := Aside0.mk (ho); clear HO_12; clear HO_13; clear HB; clear HO492; have HO_12 := n0_; have HO_13 := n1_; have HB := n2_; have HO495 := n3_; clear n0_ n1_ n2_ n3_; clear ho hb hg hat) | ((with_reducible refine gate_builtin (b := .append) (xs := #[.tmp 66, .tmp 68]) rfl ?_); at_builtin; refine Kd.R_append (Kd.int .i64) (w0 := w) w.heap.size rfl (.tmp 66) (.tmp 68) 22 3 (.int .i64 0) 8 rfl Try.underlying22 info3 rfl (by decide) (by omega) v494 y493 x16_19 [.int .i64 x16_19] (fun k_ => some k_ ≠ (.slice (some ad487) t477.length co21 : Value).ownBlock ∧ some k_ ≠ (u13 : Value).ownBlock) (fun _ => False) rfl rfl ?aP (fun _ hk => hk.elim) ?aF ?aO ?aB ?aS ?aL ?_; (case aP => exact rfl); (case aB => exact (by repeat (first | (with_reducible first | exact HB.out | apply below_alloc | apply pw_below_drewN | apply below_drew1) | exact HB.out))); (case aF => exact (fun k_ hk => ⟨Kd.fresh' (Kd.R_lt (by (with_reducible repeat (first | apply Kd.R_alloc | apply Kd.R_drewN | apply Kd.R_drew)); exact HO_12.out)) k_ hk, Kd.fresh' (Kd.R_lt (by (with_reducible repeat (first | apply Kd.R_alloc | apply Kd.R_drewN | apply Kd.R_drew)); exact HO_13.out)) k_ hk⟩)); (case aO => exact (by (with_reducible repeat (first | apply Kd.R_alloc | apply Kd.R_drewN | apply Kd.R_drew)); exact HO495.out)); (case aS => exact (below_size (by repeat (first | (with_reducible first | exact HB.out | apply below_alloc | apply pw_below_drewN | apply below_drew1) | exact HB.out)))); (case aL => have := LMc25.out; omega); intro v497 w30 ho hb hg hat; rw [← Ny496.out] at ho; have n0_ := Aside0.mk (Kd.R_after (ok := (fun k_ => some k_ ≠ (u13 : Value).ownBlock)) (by (with_reducible repeat (first | apply Kd.R_alloc | apply Kd.R_drewN | apply Kd.R_drew)); exact HO_12.out) hg hat); have n1_ := Aside0.mk (Kd.R_after (ok := (fun k_ => some k_ ≠ (.slice (some ad487) t477.length co21 : Value).ownBlock)) (by (with_reducible repeat (first | apply Kd.R_alloc | apply Kd.R_drewN | apply Kd.R_drew)); exact HO_13.out) hg hat); have n2_ := Aside0.mk (hb); have n3_ := Aside0.mk (ho); clear HO_12; clear HO_13; clear HB; clear HO495; have HO_12 := n0_; have HO_13 := n1_; have HB := n2_; have HO498 := n3_; clear n0_ n1_ n2_ n3_; clear ho hb hg hat) | ((with_reducible refine gate_dst (N := 70) rfl ?_); refine Kd.R_lit (Kd.int .i64) _ 3 ?hg (N := 70) ?hd (xs := ([] : List Int)) (inner := []) (ok := fun _ => True) (okp := fun _ => True) ?hr ?hp (fun _ hk => hk) trivial (Below.refl _ _) (Nat.le_refl _) (by simp) ?_; (case hd => rfl); (case hg => rfl); (case hr => first | (go_simp; done) | (go_simp; rfl)); (case hp => exact (Reps.none _ _)); intro v500 w31 ho32 hb hg_ hnew_; clear hg_ hnew_; (first | rw [← Ny499.out] at ho32 | (simp only [Int.reduceToNat] at ho32; rw [← Ny499.out] at ho32)); have n0_ := Aside0.mk (Kd.R_elder' (by (with_reducible repeat (first | apply Kd.R_alloc | apply Kd.R_drewN | apply Kd.R_drew)); exact HO_12.out) (Kd.R_base ho32) hb); have n1_ := Aside0.mk (Kd.R_elder' (by (with_reducible repeat (first | apply Kd.R_alloc | apply Kd.R_drewN | apply Kd.R_drew)); exact HO_13.out) (Kd.R_base ho32) hb); have n2_ := Aside0.mk (Kd.R_elder' (by (with_reducible repeat (first | apply Kd.R_alloc | apply Kd.R_drewN | apply Kd.R_drew)); exact HO498.out) (Kd.R_base ho32) hb); have n3_ := Aside0.mk (Kd.R_lower (Kd.R_new' (Kd.R_new' (Kd.R_new' ho32 (Kd.R_lt (by (with_reducible repeat (first | apply Kd.R_alloc | apply Kd.R_drewN | apply Kd.R_drew)); exact HO_12.out))) (Kd.R_lt (by (with_reducible repeat (first | apply Kd.R_alloc | apply Kd.R_drewN | apply Kd.R_drew)); exact HO_13.out))) (Kd.R_lt (by (with_reducible repeat (first | apply Kd.R_alloc | apply Kd.R_drewN | apply Kd.R_drew)); exact HO498.out))) (below_size (by repeat (first | (with_reducible first | exact HB.out | apply below_alloc | apply pw_below_drewN | apply below_drew1) | exact HB.out)))); have n4_ := Aside0.mk (below_step (by repeat (first | (with_reducible first | exact HB.out | apply below_alloc | apply pw_below_drewN | apply below_drew1) | exact HB.out)) hb); clear HO_12; clear HO_13; clear HO498; clear HB; have HO_12 := n0_; have HO_13 := n1_; have HO498 := n2_; have HO501 := n3_; have HB := n4_; clear n0_ n1_ n2_ n3_ n4_; clear hb ho32; obtain ⟨Ao34, co34, eo34⟩ := Kd.R_slice HO_13.out; subst eo34) | ((with_reducible refine gate_builtin (b := .append) (xs := #[.tmp 70, .tmp 71]) rfl ?_); at_builtin; refine Kd.R_append_rows (Kd.int .i64) (w0 := w) w.heap.size rfl (.tmp 70) (.tmp 71) 22 3 (.int .i64 0) 8 rfl Try.underlying22 info3 rfl (by decide) (by omega) v500 y499 x13_8 _ _ _ (fun k_ => some k_ ≠ (.slice (some ad487) t477.length co21 : Value).ownBlock ∧ some k_ ≠ (.slice Ao34 x13_8.length co34 : Value).ownBlock ∧ some k_ ≠ (v497 : Value).ownBlock) (fun _ => False) rfl rfl ?aO ?aR (fun _ _ h => h) (fun _ h => h.elim) ?aF ?aB ?aS ?aL ?_; (case aR => repeat (first | exact (Kd.R_reads' HO_13.out).2.2 | (with_reducible refine Kd.C_alloc ?_ _) | (with_reducible refine Kd.C_drewN ?_ _) | (with_reducible refine Kd.C_drew ?_))); (case aB => exact (by repeat (first | (with_reducible first | exact HB.out | apply below_alloc | apply pw_below_drewN | apply below_drew1) | exact HB.out))); (case aF => exact (fun k_ hk => ⟨Kd.fresh' (Kd.R_lt (by (with_reducible repeat (first | apply Kd.R_alloc | apply Kd.R_drewN | apply Kd.R_drew)); exact HO_12.out)) k_ hk, Kd.fresh' (Kd.R_lt (by (with_reducible repeat (first | apply Kd.R_alloc | apply Kd.R_drewN | apply Kd.R_drew)); exact HO_13.out)) k_ hk, Kd.fresh' (Kd.R_lt (by (with_reducible repeat (first | apply Kd.R_alloc | apply Kd.R_drewN | apply Kd.R_drew)); exact HO498.out)) k_ hk⟩)); (case aO => exact (by (with_reducible repeat (first | apply Kd.R_alloc | apply Kd.R_drewN | apply Kd.R_drew)); exact Kd.R_mono HO501.out (fun _ hk => ⟨hk.1.1.2, ⟨hk.1.2, hk.2⟩⟩))); (case aS => exact (below_size (by repeat (first | (with_reducible first | exact HB.out | apply below_alloc | apply pw_below_drewN | apply below_drew1) | exact HB.out)))); (case aL => have := LMc26.out; omega); intro v503 w33 ho hb hg hat; rw [← Ny502.out] at ho; have n0_ := Aside0.mk (Kd.R_after (ok := (fun k_ => some k_ ≠ (.slice Ao34 x13_8.length co34 : Value).ownBlock ∧ some k_ ≠ (v497 : Value).ownBlock)) (by (with_reducible repeat (first | apply Kd.R_alloc | apply Kd.R_drewN | apply Kd.R_drew)); exact HO_12.out) hg hat); have n1_ := Aside0.mk (Kd.R_after (ok := (fun k_ => some k_ ≠ (.slice (some ad487) t477.length co21 : Value).ownBlock ∧ some k_ ≠ (v497 : Value).ownBlock)) (by (with_reducible repeat (first | apply Kd.R_alloc | apply Kd.R_drewN | apply Kd.R_drew)); exact HO_13.out) hg hat); have n2_ := Aside0.mk (Kd.R_after (ok := (fun k_ => some k_ ≠ (.slice (some ad487) t477.length co21 : Value).ownBlock ∧ some k_ ≠ (.slice Ao34 x13_8.length co34 : Value).ownBlock)) (by (with_reducible repeat (first | apply Kd.R_alloc | apply Kd.R_drewN | apply Kd.R_drew)); exact HO498.out) hg hat); have n3_ := Aside0.mk (hb); have n4_ := Aside0.mk (ho); clear HO_12; clear HO_13; clear HO498; clear HB; clear HO501; have HO_12 := n0_; have HO_13 := n1_; have HO498 := n2_; have HB := n3_; have HO504 := n4_; clear n0_ n1_ n2_ n3_ n4_; clear ho hb hg hat) | ((with_reducible refine gate_dst (N := 75) rfl ?_); refine Kd.R_lit (Kd.int .i64) _ 3 ?hg (N := 75) ?hd (xs := ([(rd t477 (ji16)), x16_19] : List Int)) (inner := [.int .i64 (rd t477 (ji16)), .int .i64 x16_19]) (ok := fun _ => True) (okp := fun _ => True) ?hr ?hp (fun _ hk => hk) trivial (Below.refl _ _) (Nat.le_refl _) (by simp) ?_; (case hd => rfl); (case hg => rfl); (case hr => first | (go_simp; done) | (go_simp; rfl)); (case hp => exact (Reps.one (show Kd.M (Kd.int .i64) _ _ _ (rd t477 (ji16)) [.int .i64 (rd t477 (ji16))] from rfl) (Reps.one (show Kd.M (Kd.int .i64) _ _ _ x16_19 [.int .i64 x16_19] from rfl) (Reps.none _ _)))); intro v506 w35 ho36 hb hg_ hnew_; clear hg_ hnew_; (first | rw [← Ny505.out] at ho36 | (simp only [Int.reduceToNat] at ho36; rw [← Ny505.out] at ho36)); have n0_ := Aside0.mk (Kd.R_elder' (by (with_reducible repeat (first | apply Kd.R_alloc | apply Kd.R_drewN | apply Kd.R_drew)); exact HO_12.out) (Kd.R_base ho36) hb); have n1_ := Aside0.mk (Kd.R_elder' (by (with_reducible repeat (first | apply Kd.R_alloc | apply Kd.R_drewN | apply Kd.R_drew)); exact HO_13.out) (Kd.R_base ho36) hb); have n2_ := Aside0.mk (Kd.R_elder' (by (with_reducible repeat (first | apply Kd.R_alloc | apply Kd.R_drewN | apply Kd.R_drew)); exact HO498.out) (Kd.R_base ho36) hb); have n3_ := Aside0.mk (Kd.R_elder' (by (with_reducible repeat (first | apply Kd.R_alloc | apply Kd.R_drewN | apply Kd.R_drew)); exact HO504.out) (Kd.R_base ho36) hb); have n4_ := Aside0.mk (Kd.R_lower (Kd.R_new' (Kd.R_new' (Kd.R_new' (Kd.R_new' ho36 (Kd.R_lt (by (with_reducible repeat (first | apply Kd.R_alloc | apply Kd.R_drewN | apply Kd.R_drew)); exact HO_12.out))) (Kd.R_lt (by (with_reducible repeat (first | apply Kd.R_alloc | apply Kd.R_drewN | apply Kd.R_drew)); exact HO_13.out))) (Kd.R_lt (by (with_reducible repeat (first | apply Kd.R_alloc | apply Kd.R_drewN | apply Kd.R_drew)); exact HO498.out))) (Kd.R_lt (by (with_reducible repeat (first | apply Kd.R_alloc | apply Kd.R_drewN | apply Kd.R_drew)); exact HO504.out))) (below_size (by repeat (first | (with_reducible first | exact HB.out | apply below_alloc | apply pw_below_drewN | apply below_drew1) | exact HB.out)))); have n5_ := Aside0.mk (below_step (by repeat (first | (with_reducible first | exact HB.out | apply below_alloc | apply pw_below_drewN | apply below_drew1) | exact HB.out)) hb); clear HO_12; clear HO_13; clear HO498; clear HO504; clear HB; have HO_12 := n0_; have HO_13 := n1_; have HO498 := n2_; have HO504 := n3_; have HO507 := n4_; have HB := n5_; clear n0_ n1_ n2_ n3_ n4_ n5_; clear hb ho36; obtain ⟨Ao37, co37, eo37⟩ := Kd.R_slice HO507.out; subst eo37)))
                      go_loopg [77] kj19 (fun kq v77 w' => ∃ (x18_3 : List Int) (x77_3 : Int), v77 = .int .i64 x77_3 ∧ Aside0 (dialtonelaw24_RouteMoves.l0 kq a4 t477 x13_8 x14_8 (rd t477 (ji16)) x16_19 y496 x18_3 y505 (y505.length : Int) x77_3 = some r) ∧ Aside0 (kq ≤ kj19) ∧ Aside0 (Kd.R (Kd.int .i64) 3 w' w.heap.size (fun k_ => some k_ ≠ ((.slice Ao34 x13_8.length co34) : Value).ownBlock ∧ some k_ ≠ (v497 : Value).ownBlock ∧ some k_ ≠ (v503 : Value).ownBlock ∧ some k_ ≠ ((.slice Ao37 y505.length co37) : Value).ownBlock) (.slice (some ad487) t477.length co21) t477) ∧ Aside0 (Kd.R (Kd.int .i64) 3 w' w.heap.size (fun k_ => some k_ ≠ ((.slice (some ad487) t477.length co21) : Value).ownBlock ∧ some k_ ≠ (v497 : Value).ownBlock ∧ some k_ ≠ (v503 : Value).ownBlock ∧ some k_ ≠ ((.slice Ao37 y505.length co37) : Value).ownBlock) (.slice Ao34 x13_8.length co34) x13_8) ∧ Aside0 (Kd.R (Kd.int .i64) 3 w' w.heap.size (fun k_ => some k_ ≠ ((.slice (some ad487) t477.length co21) : Value).ownBlock ∧ some k_ ≠ ((.slice Ao34 x13_8.length co34) : Value).ownBlock ∧ some k_ ≠ (v503 : Value).ownBlock ∧ some k_ ≠ ((.slice Ao37 y505.length co37) : Value).ownBlock) v497 y496) ∧ Aside0 (Kd.R (Kd.int .i64) 3 w' w.heap.size (fun k_ => some k_ ≠ ((.slice (some ad487) t477.length co21) : Value).ownBlock ∧ some k_ ≠ ((.slice Ao34 x13_8.length co34) : Value).ownBlock ∧ some k_ ≠ (v497 : Value).ownBlock ∧ some k_ ≠ ((.slice Ao37 y505.length co37) : Value).ownBlock) v503 x18_3) ∧ Aside0 (Kd.R (Kd.int .i64) 3 w' w.heap.size (fun k_ => some k_ ≠ ((.slice (some ad487) t477.length co21) : Value).ownBlock ∧ some k_ ≠ ((.slice Ao34 x13_8.length co34) : Value).ownBlock ∧ some k_ ≠ (v497 : Value).ownBlock ∧ some k_ ≠ (v503 : Value).ownBlock) (.slice Ao37 y505.length co37) y505) ∧ Aside0 (Below w.heap.size w w'))
                      case atStart => exact ⟨(y502), (0), (by first | rfl | (simp; done) | (simp [*]; done)), H', ⟨Nat.le_refl _⟩, ⟨by (with_reducible repeat (first | apply Kd.R_alloc | apply Kd.R_drewN | apply Kd.R_drew)); exact Kd.R_mono HO_12.out (fun _ hk => ⟨hk.1.1.1, ⟨hk.1.1.2, ⟨hk.1.2, hk.2⟩⟩⟩)⟩, ⟨by (with_reducible repeat (first | apply Kd.R_alloc | apply Kd.R_drewN | apply Kd.R_drew)); exact Kd.R_mono HO_13.out (fun _ hk => ⟨hk.1.1.1, ⟨hk.1.1.2, ⟨hk.1.2, hk.2⟩⟩⟩)⟩, ⟨by (with_reducible repeat (first | apply Kd.R_alloc | apply Kd.R_drewN | apply Kd.R_drew)); exact Kd.R_mono HO498.out (fun _ hk => ⟨hk.1.1.1, ⟨hk.1.1.2, ⟨hk.1.2, hk.2⟩⟩⟩)⟩, ⟨by (with_reducible repeat (first | apply Kd.R_alloc | apply Kd.R_drewN | apply Kd.R_drew)); exact Kd.R_mono HO504.out (fun _ hk => ⟨hk.1.1, ⟨hk.1.2.1, ⟨hk.1.2.2, hk.2⟩⟩⟩)⟩, ⟨by (with_reducible repeat (first | apply Kd.R_alloc | apply Kd.R_drewN | apply Kd.R_drew)); exact Kd.R_mono HO507.out (fun _ hk => ⟨hk.1.1.1.2, ⟨hk.1.1.2, ⟨hk.1.2, hk.2⟩⟩⟩)⟩, ⟨by repeat (first | (with_reducible first | exact HB.out | apply below_alloc | apply pw_below_drewN | apply below_drew1) | exact HB.out)⟩⟩
                      case round =>
                        clear H'
                        try clear c1
                        try clear c2
                        try clear p2
                        try clear p4
                        try clear q4
                        try clear hx4
                        try clear p6
                        try clear c7
                        try clear c9
                        try clear c12
                        try clear c12b0
                        try clear c12b1
                        try clear c17
                        try clear c17b0
                        try clear c18
                        try clear c18b0
                        try clear c22
                        try clear c22b0
                        try clear c22b1
                        try clear c24
                        try clear c25
                        try clear c26
                        try clear hx487_0
                        try clear p2
                        try clear p4
                        try clear p487
                        try clear p6
                        try clear q4
                        try clear q487
                        obtain ⟨x18_3, x77_3, rfl, HA, HK3, HO_12, HO_13, HO_17, HO_18, HO_75, HB⟩ := hrel
                        cases gk with
                        | zero => exact absurd HA.out (by simp [dialtonelaw24_RouteMoves.l0])
                        | succ k3 =>
                          have H := HA.out
                          clear HA
                          simp only [dialtonelaw24_RouteMoves.l0] at H
                          by_cases c38 : x77_3 < (y505.length : Int)
                          · rw [if_pos c38] at H
                            have c38b0 : decide (x77_3 < (y505.length : Int)) = true := decide_eq_true c38
                            clear c38
                            by_cases c39 : 0 ≤ x77_3
                            · rw [if_pos c39] at H
                              have c39b0 : decide (0 ≤ x77_3) = true := decide_eq_true c39
                              clear c39
                              by_cases c40 : x77_3 < (y505.length : Int)
                              · rw [if_pos c40] at H
                                have c40b0 : decide (x77_3 < (y505.length : Int)) = true := decide_eq_true c40
                                clear c40
                                by_cases c41 : (rd y505 x77_3) ≥ 0
                                · rw [if_pos c41] at H
                                  have c41b0 : decide (0 ≤ (rd y505 x77_3)) = true := decide_eq_true c41
                                  clear c41
                                  by_cases c42 : 0 ≤ (rd y505 x77_3)
                                  · rw [if_pos c42] at H
                                    have c42b0 : decide (0 ≤ (rd y505 x77_3)) = true := decide_eq_true c42
                                    clear c42
                                    by_cases c43 : (rd y505 x77_3) < (x18_3.length : Int)
                                    · rw [if_pos c43] at H
                                      have c43b0 : decide ((rd y505 x77_3) < (x18_3.length : Int)) = true := decide_eq_true c43
                                      clear c43
                                      by_cases c44 : (rd x18_3 (rd y505 x77_3)) ≥ 0
                                      · rw [if_pos c44] at H
                                        have c44b0 : decide (0 ≤ (rd x18_3 (rd y505 x77_3))) = true := decide_eq_true c44
                                        clear c44
                                        obtain ⟨y510, hy510⟩ : ∃ y_ : List Int, y_ = (x18_3.set ((rd y505 x77_3) : Int).toNat (wrap64 ((y496.length : Int) - 1))) := ⟨_, rfl⟩
                                        replace H : (dialtonelaw24_RouteMoves.l0 k3 a4 t477 x13_8 x14_8 (rd t477 (ji16)) x16_19 y496 y510 y505 (y505.length : Int) (wrap64 (x77_3 + 1))) = some r := by first | (rw [hy510]; with_reducible exact H) | (have H2_ := (Option.bind_some _ _).symm.trans H; rw [hy510]; with_reducible exact H2_) | (have H2_ := (Option.bind_some _ _).symm.trans H; with_reducible exact H2_) | with_reducible exact H | (rw [hy510]; exact H) | exact H
                                        have Ny510 := Aside0.mk hy510
                                        clear hy510
                                        have H' := Aside0.mk H
                                        clear H
                                        have p508 : 0 ≤ (x77_3 : Int) := of_decide_eq_true (by first | (with_reducible assumption) | assumption)
                                        have q508 : x77_3 < (y505.length : Int) := of_decide_eq_true (by first | (with_reducible assumption) | assumption)
                                        (try (obtain ⟨Ao_, co_, eo_⟩ := Kd.R_slice HO_75.out; cases eo_))
                                        obtain ⟨ad508, e508, hx508_0⟩ := Kd.at_int (Kd.R_reads' HO_75.out).2.2 x77_3 p508 q508
                                        cases e508
                                        replace p508 := eq_true p508
                                        replace q508 := eq_true q508
                                        obtain ⟨Ao46, co46, eo46⟩ := Kd.R_slice HO_18.out
                                        subst eo46
                                        have p509 : 0 ≤ ((rd y505 x77_3) : Int) := of_decide_eq_true (by first | (with_reducible assumption) | assumption)
                                        have q509 : (rd y505 x77_3) < (x18_3.length : Int) := of_decide_eq_true (by first | (with_reducible assumption) | assumption)
                                        (try (obtain ⟨Ao_, co_, eo_⟩ := Kd.R_slice HO_18.out; cases eo_))
                                        obtain ⟨ad509, e509, hx509_0⟩ := Kd.at_int (Kd.R_reads' HO_18.out).2.2 (rd y505 x77_3) p509 q509
                                        cases e509
                                        replace p509 := eq_true p509
                                        replace q509 := eq_true q509
                                        obtain ⟨Ao47, co47, eo47⟩ := Kd.R_slice HO_17.out
                                        subst eo47
                                        have p45 : 0 ≤ ((rd y505 x77_3) : Int) := of_decide_eq_true (by first | (with_reducible assumption) | assumption)
                                        have q45 : ((rd y505 x77_3) : Int) < ((x18_3.length : Int) : Int) := of_decide_eq_true (by first | (with_reducible assumption) | assumption)
                                        obtain ⟨go45, co45, eo45, gb45, gl45, cl45, HG45⟩ := Kd.R_form HO_18.out (by omega)
                                        (first | cases eo45 | (injection eo45 with ea_ en_ ec_; (first | subst ea_ | (injection ea_ with ea_; subst ea_)); subst ec_; clear en_))
                                        have GB45 := Aside0.mk gb45
                                        have GG45 := Aside0.mk HG45
                                        clear gb45 gl45 HG45
                                        (first | simp only [add_plain] at hx509_0 | skip)
                                        obtain ⟨hx45_0, hf45_0⟩ := Kd.R_celln 0 HO_18.out ((rd y505 x77_3) : Int) p45 q45
                                        replace p45 := eq_true p45
                                        replace q45 := eq_true q45
                                        have HP48 := Kd.R_putg HO_18.out ((rd y505 x77_3) : Int) (wrap64 ((y496.length : Int) - 1))
                                        go_wp2_with (first | ((with_reducible refine gate_store (t := 3) (p := 95) rfl ?_); (try (rw [drewN_self wr]; generalize hq_ : World.drewN wr _ = wr; have n0_ := Aside0.mk (Kd.R_at hq_ HO_12.out); have n1_ := Aside0.mk (Kd.R_at hq_ HO_13.out); have n2_ := Aside0.mk (Kd.R_at hq_ HO_17.out); have n3_ := Aside0.mk (Kd.R_at hq_ HO_18.out); have n4_ := Aside0.mk (Kd.R_at hq_ HO_75.out); have n5_ := Aside0.mk (below_at hq_ HB.out); clear hq_ HO_12 HO_13 HO_17 HO_18 HO_75 HB; have HO_12 := n0_; have HO_13 := n1_; have HO_17 := n2_; have HO_18 := n3_; have HO_75 := n4_; have HB := n5_; clear n0_ n1_ n2_ n3_ n4_ n5_; (try (have HP48 := Kd.R_putg HO_18.out ((rd y505 x77_3) : Int) (wrap64 ((y496.length : Int) - 1)))))); refine store_event (t := 3) (p := 95) (v := ?vo_w49) (w1 := (wr.setCell ⟨go45, ((rd y505 x77_3) : Int).toNat, none⟩ (.int .i64 (wrap64 ((y496.length : Int) - 1))))) ?hg ?ho ?hn ?hr ?_; (case ho => rfl); (case hg => rfl); (case hn => rfl); (case hr => first | (go_simp; done) | (go_simp; rfl)); intro w49 hw; have hg : wr.grownBy w49 (some go45) := (by rw [hw]; exact HP48.2); have hp_ : Kd.R (Kd.int .i64) 3 w49 w.heap.size (fun k_ => some k_ ≠ (.slice (some ad487) t477.length co21 : Value).ownBlock ∧ some k_ ≠ (.slice Ao34 x13_8.length co34 : Value).ownBlock ∧ some k_ ≠ (.slice Ao47 y496.length co47 : Value).ownBlock ∧ some k_ ≠ (.slice (some ad508) y505.length co37 : Value).ownBlock) (.slice (some ⟨go45, 0, none⟩) x18_3.length co46) y510 := (by rw [hw, Ny510.out]; exact HP48.1); clear HP48; have n0_ := Aside0.mk (Kd.R_after (v := (.slice (some ⟨go45, 0, none⟩) x18_3.length co46)) (v1 := (.slice (some ⟨go45, 0, none⟩) x18_3.length co46)) (ok := (fun k_ => some k_ ≠ (.slice Ao34 x13_8.length co34 : Value).ownBlock ∧ some k_ ≠ (.slice Ao47 y496.length co47 : Value).ownBlock ∧ some k_ ≠ (.slice (some ad508) y505.length co37 : Value).ownBlock)) (by (with_reducible repeat (first | apply Kd.R_alloc | apply Kd.R_drewN | apply Kd.R_drew)); exact Kd.R_mono HO_12.out (fun _ hk => ⟨⟨hk.1, ⟨hk.2.1, hk.2.2.2⟩⟩, hk.2.2.1⟩)) hg (.inl rfl)); have n1_ := Aside0.mk (Kd.R_after (v := (.slice (some ⟨go45, 0, none⟩) x18_3.length co46)) (v1 := (.slice (some ⟨go45, 0, none⟩) x18_3.length co46)) (ok := (fun k_ => some k_ ≠ (.slice (some ad487) t477.length co21 : Value).ownBlock ∧ some k_ ≠ (.slice Ao47 y496.length co47 : Value).ownBlock ∧ some k_ ≠ (.slice (some ad508) y505.length co37 : Value).ownBlock)) (by (with_reducible repeat (first | apply Kd.R_alloc | apply Kd.R_drewN | apply Kd.R_drew)); exact Kd.R_mono HO_13.out (fun _ hk => ⟨⟨hk.1, ⟨hk.2.1, hk.2.2.2⟩⟩, hk.2.2.1⟩)) hg (.inl rfl)); have n2_ := Aside0.mk (Kd.R_after (v := (.slice (some ⟨go45, 0, none⟩) x18_3.length co46)) (v1 := (.slice (some ⟨go45, 0, none⟩) x18_3.length co46)) (ok := (fun k_ => some k_ ≠ (.slice (some ad487) t477.length co21 : Value).ownBlock ∧ some k_ ≠ (.slice Ao34 x13_8.length co34 : Value).ownBlock ∧ some k_ ≠ (.slice (some ad508) y505.length co37 : Value).ownBlock)) (by (with_reducible repeat (first | apply Kd.R_alloc | apply Kd.R_drewN | apply Kd.R_drew)); exact Kd.R_mono HO_17.out (fun _ hk => ⟨⟨hk.1, ⟨hk.2.1, hk.2.2.2⟩⟩, hk.2.2.1⟩)) hg (.inl rfl)); have n3_ := Aside0.mk (hp_); have n4_ := Aside0.mk (Kd.R_after (v := (.slice (some ⟨go45, 0, none⟩) x18_3.length co46)) (v1 := (.slice (some ⟨go45, 0, none⟩) x18_3.length co46)) (ok := (fun k_ => some k_ ≠ (.slice (some ad487) t477.length co21 : Value).ownBlock ∧ some k_ ≠ (.slice Ao34 x13_8.length co34 : Value).ownBlock ∧ some k_ ≠ (.slice Ao47 y496.length co47 : Value).ownBlock)) (by (with_reducible repeat (first | apply Kd.R_alloc | apply Kd.R_drewN | apply Kd.R_drew)); exact Kd.R_mono HO_75.out (fun _ hk => ⟨⟨hk.1, ⟨hk.2.1, hk.2.2.1⟩⟩, hk.2.2.2⟩)) hg (.inl rfl)); have n5_ := Aside0.mk ((by rw [hw]; exact below_set (HB.out) GB45.out : Below w.heap.size w w49)); clear HO_12; clear HO_13; clear HO_17; clear HO_18; clear HO_75; clear HB; have HO_12 := n0_; have HO_13 := n1_; have HO_17 := n2_; have HO_18 := n3_; have HO_75 := n4_; have HB := n5_; clear n0_ n1_ n2_ n3_ n4_ n5_; clear hg hw hp_))
                                        repeat (go_quiet (first | ((with_reducible refine gate_store (t := 3) (p := 95) rfl ?_); (try (rw [drewN_self wr]; generalize hq_ : World.drewN wr _ = wr; have n0_ := Aside0.mk (Kd.R_at hq_ HO_12.out); have n1_ := Aside0.mk (Kd.R_at hq_ HO_13.out); have n2_ := Aside0.mk (Kd.R_at hq_ HO_17.out); have n3_ := Aside0.mk (Kd.R_at hq_ HO_18.out); have n4_ := Aside0.mk (Kd.R_at hq_ HO_75.out); have n5_ := Aside0.mk (below_at hq_ HB.out); clear hq_ HO_12 HO_13 HO_17 HO_18 HO_75 HB; have HO_12 := n0_; have HO_13 := n1_; have HO_17 := n2_; have HO_18 := n3_; have HO_75 := n4_; have HB := n5_; clear n0_ n1_ n2_ n3_ n4_ n5_; (try (have HP48 := Kd.R_putg HO_18.out ((rd y505 x77_3) : Int) (wrap64 ((y496.length : Int) - 1)))))); refine store_event (t := 3) (p := 95) (v := ?vo_w49) (w1 := (wr.setCell ⟨go45, ((rd y505 x77_3) : Int).toNat, none⟩ (.int .i64 (wrap64 ((y496.length : Int) - 1))))) ?hg ?ho ?hn ?hr ?_; (case ho => rfl); (case hg => rfl); (case hn => rfl); (case hr => first | (go_simp; done) | (go_simp; rfl)); intro w49 hw; have hg : wr.grownBy w49 (some go45) := (by rw [hw]; exact HP48.2); have hp_ : Kd.R (Kd.int .i64) 3 w49 w.heap.size (fun k_ => some k_ ≠ (.slice (some ad487) t477.length co21 : Value).ownBlock ∧ some k_ ≠ (.slice Ao34 x13_8.length co34 : Value).ownBlock ∧ some k_ ≠ (.slice Ao47 y496.length co47 : Value).ownBlock ∧ some k_ ≠ (.slice (some ad508) y505.length co37 : Value).ownBlock) (.slice (some ⟨go45, 0, none⟩) x18_3.length co46) y510 := (by rw [hw, Ny510.out]; exact HP48.1); clear HP48; have n0_ := Aside0.mk (Kd.R_after (v := (.slice (some ⟨go45, 0, none⟩) x18_3.length co46)) (v1 := (.slice (some ⟨go45, 0, none⟩) x18_3.length co46)) (ok := (fun k_ => some k_ ≠ (.slice Ao34 x13_8.length co34 : Value).ownBlock ∧ some k_ ≠ (.slice Ao47 y496.length co47 : Value).ownBlock ∧ some k_ ≠ (.slice (some ad508) y505.length co37 : Value).ownBlock)) (by (with_reducible repeat (first | apply Kd.R_alloc | apply Kd.R_drewN | apply Kd.R_drew)); exact Kd.R_mono HO_12.out (fun _ hk => ⟨⟨hk.1, ⟨hk.2.1, hk.2.2.2⟩⟩, hk.2.2.1⟩)) hg (.inl rfl)); have n1_ := Aside0.mk (Kd.R_after (v := (.slice (some ⟨go45, 0, none⟩) x18_3.length co46)) (v1 := (.slice (some ⟨go45, 0, none⟩) x18_3.length co46)) (ok := (fun k_ => some k_ ≠ (.slice (some ad487) t477.length co21 : Value).ownBlock ∧ some k_ ≠ (.slice Ao47 y496.length co47 : Value).ownBlock ∧ some k_ ≠ (.slice (some ad508) y505.length co37 : Value).ownBlock)) (by (with_reducible repeat (first | apply Kd.R_alloc | apply Kd.R_drewN | apply Kd.R_drew)); exact Kd.R_mono HO_13.out (fun _ hk => ⟨⟨hk.1, ⟨hk.2.1, hk.2.2.2⟩⟩, hk.2.2.1⟩)) hg (.inl rfl)); have n2_ := Aside0.mk (Kd.R_after (v := (.slice (some ⟨go45, 0, none⟩) x18_3.length co46)) (v1 := (.slice (some ⟨go45, 0, none⟩) x18_3.length co46)) (ok := (fun k_ => some k_ ≠ (.slice (some ad487) t477.length co21 : Value).ownBlock ∧ some k_ ≠ (.slice Ao34 x13_8.length co34 : Value).ownBlock ∧ some k_ ≠ (.slice (some ad508) y505.length co37 : Value).ownBlock)) (by (with_reducible repeat (first | apply Kd.R_alloc | apply Kd.R_drewN | apply Kd.R_drew)); exact Kd.R_mono HO_17.out (fun _ hk => ⟨⟨hk.1, ⟨hk.2.1, hk.2.2.2⟩⟩, hk.2.2.1⟩)) hg (.inl rfl)); have n3_ := Aside0.mk (hp_); have n4_ := Aside0.mk (Kd.R_after (v := (.slice (some ⟨go45, 0, none⟩) x18_3.length co46)) (v1 := (.slice (some ⟨go45, 0, none⟩) x18_3.length co46)) (ok := (fun k_ => some k_ ≠ (.slice (some ad487) t477.length co21 : Value).ownBlock ∧ some k_ ≠ (.slice Ao34 x13_8.length co34 : Value).ownBlock ∧ some k_ ≠ (.slice Ao47 y496.length co47 : Value).ownBlock)) (by (with_reducible repeat (first | apply Kd.R_alloc | apply Kd.R_drewN | apply Kd.R_drew)); exact Kd.R_mono HO_75.out (fun _ hk => ⟨⟨hk.1, ⟨hk.2.1, hk.2.2.1⟩⟩, hk.2.2.2⟩)) hg (.inl rfl)); have n5_ := Aside0.mk ((by rw [hw]; exact below_set (HB.out) GB45.out : Below w.heap.size w w49)); clear HO_12; clear HO_13; clear HO_17; clear HO_18; clear HO_75; clear HB; have HO_12 := n0_; have HO_13 := n1_; have HO_17 := n2_; have HO_18 := n3_; have HO_75 := n4_; have HB := n5_; clear n0_ n1_ n2_ n3_ n4_ n5_; clear hg hw hp_)); try go_wp2_with (first | ((with_reducible refine gate_store (t := 3) (p := 95) rfl ?_); (try (rw [drewN_self wr]; generalize hq_ : World.drewN wr _ = wr; have n0_ := Aside0.mk (Kd.R_at hq_ HO_12.out); have n1_ := Aside0.mk (Kd.R_at hq_ HO_13.out); have n2_ := Aside0.mk (Kd.R_at hq_ HO_17.out); have n3_ := Aside0.mk (Kd.R_at hq_ HO_18.out); have n4_ := Aside0.mk (Kd.R_at hq_ HO_75.out); have n5_ := Aside0.mk (below_at hq_ HB.out); clear hq_ HO_12 HO_13 HO_17 HO_18 HO_75 HB; have HO_12 := n0_; have HO_13 := n1_; have HO_17 := n2_; have HO_18 := n3_; have HO_75 := n4_; have HB := n5_; clear n0_ n1_ n2_ n3_ n4_ n5_; (try (have HP48 := Kd.R_putg HO_18.out ((rd y505 x77_3) : Int) (wrap64 ((y496.length : Int) - 1)))))); refine store_event (t := 3) (p := 95) (v := ?vo_w49) (w1 := (wr.setCell ⟨go45, ((rd y505 x77_3) : Int).toNat, none⟩ (.int .i64 (wrap64 ((y496.length : Int) - 1))))) ?hg ?ho ?hn ?hr ?_; (case ho => rfl); (case hg => rfl); (case hn => rfl); (case hr => first | (go_simp; done) | (go_simp; rfl)); intro w49 hw; have hg : wr.grownBy w49 (some go45) := (by rw [hw]; exact HP48.2); have hp_ : Kd.R (Kd.int .i64) 3 w49 w.heap.size (fun k_ => some k_ ≠ (.slice (some ad487) t477.length co21 : Value).ownBlock ∧ some k_ ≠ (.slice Ao34 x13_8.length co34 : Value).ownBlock ∧ some k_ ≠ (.slice Ao47 y496.length co47 : Value).ownBlock ∧ some k_ ≠ (.slice (some ad508) y505.length co37 : Value).ownBlock) (.slice (some ⟨go45, 0, none⟩) x18_3.length co46) y510 := (by rw [hw, Ny510.out]; exact HP48.1); clear HP48; have n0_ := Aside0.mk (Kd.R_after (v := (.slice (some ⟨go45, 0, none⟩) x18_3.length co46)) (v1 := (.slice (some ⟨go45, 0, none⟩) x18_3.length co46)) (ok := (fun k_ => some k_ ≠ (.slice Ao34 x13_8.length co34 : Value).ownBlock ∧ some k_ ≠ (.slice Ao47 y496.length co47 : Value).ownBlock ∧ some k_ ≠ (.slice (some ad508) y505.length co37 : Value).ownBlock)) (by (with_reducible repeat (first | apply Kd.R_alloc | apply Kd.R_drewN | apply Kd.R_drew)); exact Kd.R_mono HO_12.out (fun _ hk => ⟨⟨hk.1, ⟨hk.2.1, hk.2.2.2⟩⟩, hk.2.2.1⟩)) hg (.inl rfl)); have n1_ := Aside0.mk (Kd.R_after (v := (.slice (some ⟨go45, 0, none⟩) x18_3.length co46)) (v1 := (.slice (some ⟨go45, 0, none⟩) x18_3.length co46)) (ok := (fun k_ => some k_ ≠ (.slice (some ad487) t477.length co21 : Value).ownBlock ∧ some k_ ≠ (.slice Ao47 y496.length co47 : Value).ownBlock ∧ some k_ ≠ (.slice (some ad508) y505.length co37 : Value).ownBlock)) (by (with_reducible repeat (first | apply Kd.R_alloc | apply Kd.R_drewN | apply Kd.R_drew)); exact Kd.R_mono HO_13.out (fun _ hk => ⟨⟨hk.1, ⟨hk.2.1, hk.2.2.2⟩⟩, hk.2.2.1⟩)) hg (.inl rfl)); have n2_ := Aside0.mk (Kd.R_after (v := (.slice (some ⟨go45, 0, none⟩) x18_3.length co46)) (v1 := (.slice (some ⟨go45, 0, none⟩) x18_3.length co46)) (ok := (fun k_ => some k_ ≠ (.slice (some ad487) t477.length co21 : Value).ownBlock ∧ some k_ ≠ (.slice Ao34 x13_8.length co34 : Value).ownBlock ∧ some k_ ≠ (.slice (some ad508) y505.length co37 : Value).ownBlock)) (by (with_reducible repeat (first | apply Kd.R_alloc | apply Kd.R_drewN | apply Kd.R_drew)); exact Kd.R_mono HO_17.out (fun _ hk => ⟨⟨hk.1, ⟨hk.2.1, hk.2.2.2⟩⟩, hk.2.2.1⟩)) hg (.inl rfl)); have n3_ := Aside0.mk (hp_); have n4_ := Aside0.mk (Kd.R_after (v := (.slice (some ⟨go45, 0, none⟩) x18_3.length co46)) (v1 := (.slice (some ⟨go45, 0, none⟩) x18_3.length co46)) (ok := (fun k_ => some k_ ≠ (.slice (some ad487) t477.length co21 : Value).ownBlock ∧ some k_ ≠ (.slice Ao34 x13_8.length co34 : Value).ownBlock ∧ some k_ ≠ (.slice Ao47 y496.length co47 : Value).ownBlock)) (by (with_reducible repeat (first | apply Kd.R_alloc | apply Kd.R_drewN | apply Kd.R_drew)); exact Kd.R_mono HO_75.out (fun _ hk => ⟨⟨hk.1, ⟨hk.2.1, hk.2.2.1⟩⟩, hk.2.2.2⟩)) hg (.inl rfl)); have n5_ := Aside0.mk ((by rw [hw]; exact below_set (HB.out) GB45.out : Below w.heap.size w w49)); clear HO_12; clear HO_13; clear HO_17; clear HO_18; clear HO_75; clear HB; have HO_12 := n0_; have HO_13 := n1_; have HO_17 := n2_; have HO_18 := n3_; have HO_75 := n4_; have HB := n5_; clear n0_ n1_ n2_ n3_ n4_ n5_; clear hg hw hp_)))
                                        go_roundg k3
                                        case measure => have := HJ8.out; have := HJ19.out; have := HK3.out; omega
                                        case rel => exact ⟨(y510), (wrap64 (x77_3 + 1)), (by first | rfl | (simp; done) | (simp [*]; done)), H', ⟨by have := HJ8.out; have := HJ19.out; have := HK3.out; omega⟩, ⟨by (with_reducible repeat (first | apply Kd.R_alloc | apply Kd.R_drewN | apply Kd.R_drew)); exact Kd.R_mono HO_12.out (fun _ hk => ⟨hk.1.1, ⟨hk.1.2.1, ⟨hk.2, hk.1.2.2⟩⟩⟩)⟩, ⟨by (with_reducible repeat (first | apply Kd.R_alloc | apply Kd.R_drewN | apply Kd.R_drew)); exact Kd.R_mono HO_13.out (fun _ hk => ⟨hk.1.1, ⟨hk.1.2.1, ⟨hk.2, hk.1.2.2⟩⟩⟩)⟩, ⟨by (with_reducible repeat (first | apply Kd.R_alloc | apply Kd.R_drewN | apply Kd.R_drew)); exact Kd.R_mono HO_17.out (fun _ hk => ⟨hk.1.1, ⟨hk.1.2.1, ⟨hk.2, hk.1.2.2⟩⟩⟩)⟩, ⟨by (with_reducible repeat (first | apply Kd.R_alloc | apply Kd.R_drewN | apply Kd.R_drew)); exact HO_18.out⟩, ⟨by (with_reducible repeat (first | apply Kd.R_alloc | apply Kd.R_drewN | apply Kd.R_drew)); exact Kd.R_mono HO_75.out (fun _ hk => ⟨hk.1.1, ⟨hk.1.2.1, ⟨hk.1.2.2, hk.2⟩⟩⟩)⟩, ⟨by repeat (first | (with_reducible first | exact HB.out | apply below_alloc | apply pw_below_drewN | apply below_drew1) | exact HB.out)⟩⟩
                                      · rw [if_neg c44] at H
                                        have c44b0 : decide (0 ≤ (rd x18_3 (rd y505 x77_3))) = false := decide_eq_false c44
                                        clear c44
                                        have H' := Aside0.mk H
                                        clear H
                                        have p508 : 0 ≤ (x77_3 : Int) := of_decide_eq_true (by first | (with_reducible assumption) | assumption)
                                        have q508 : x77_3 < (y505.length : Int) := of_decide_eq_true (by first | (with_reducible assumption) | assumption)
                                        (try (obtain ⟨Ao_, co_, eo_⟩ := Kd.R_slice HO_75.out; cases eo_))
                                        obtain ⟨ad508, e508, hx508_0⟩ := Kd.at_int (Kd.R_reads' HO_75.out).2.2 x77_3 p508 q508
                                        cases e508
                                        replace p508 := eq_true p508
                                        replace q508 := eq_true q508
                                        obtain ⟨Ao50, co50, eo50⟩ := Kd.R_slice HO_18.out
                                        subst eo50
                                        have p509 : 0 ≤ ((rd y505 x77_3) : Int) := of_decide_eq_true (by first | (with_reducible assumption) | assumption)
                                        have q509 : (rd y505 x77_3) < (x18_3.length : Int) := of_decide_eq_true (by first | (with_reducible assumption) | assumption)
                                        (try (obtain ⟨Ao_, co_, eo_⟩ := Kd.R_slice HO_18.out; cases eo_))
                                        obtain ⟨ad509, e509, hx509_0⟩ := Kd.at_int (Kd.R_reads' HO_18.out).2.2 (rd y505 x77_3) p509 q509
                                        cases e509
                                        replace p509 := eq_true p509
                                        replace q509 := eq_true q509
                                        go_wp2
                                        repeat (go_quiet (fail); try go_wp2)
                                        go_roundg k3
                                        case measure => have := HJ8.out; have := HJ19.out; have := HK3.out; omega
                                        case rel => exact ⟨(x18_3), (wrap64 (x77_3 + 1)), (by first | rfl | (simp; done) | (simp [*]; done)), H', ⟨by have := HJ8.out; have := HJ19.out; have := HK3.out; omega⟩, ⟨by (with_reducible repeat (first | apply Kd.R_alloc | apply Kd.R_drewN | apply Kd.R_drew)); exact HO_12.out⟩, ⟨by (with_reducible repeat (first | apply Kd.R_alloc | apply Kd.R_drewN | apply Kd.R_drew)); exact HO_13.out⟩, ⟨by (with_reducible repeat (first | apply Kd.R_alloc | apply Kd.R_drewN | apply Kd.R_drew)); exact HO_17.out⟩, ⟨by (with_reducible repeat (first | apply Kd.R_alloc | apply Kd.R_drewN | apply Kd.R_drew)); exact HO_18.out⟩, ⟨by (with_reducible repeat (first | apply Kd.R_alloc | apply Kd.R_drewN | apply Kd.R_drew)); exact HO_75.out⟩, ⟨by repeat (first | (with_reducible first | exact HB.out | apply below_alloc | apply pw_below_drewN | apply below_drew1) | exact HB.out)⟩⟩
                                    · rw [if_neg c43] at H
                                      exact absurd H (by simp)
                                  · rw [if_neg c42] at H
                                    exact absurd H (by simp)
                                · rw [if_neg c41] at H
                                  have c41b0 : decide (0 ≤ (rd y505 x77_3)) = false := decide_eq_false c41
                                  clear c41
                                  have H' := Aside0.mk H
                                  clear H
                                  have p508 : 0 ≤ (x77_3 : Int) := of_decide_eq_true (by first | (with_reducible assumption) | assumption)
                                  have q508 : x77_3 < (y505.length : Int) := of_decide_eq_true (by first | (with_reducible assumption) | assumption)
                                  (try (obtain ⟨Ao_, co_, eo_⟩ := Kd.R_slice HO_75.out; cases eo_))
                                  obtain ⟨ad508, e508, hx508_0⟩ := Kd.at_int (Kd.R_reads' HO_75.out).2.2 x77_3 p508 q508
                                  cases e508
                                  replace p508 := eq_true p508
                                  replace q508 := eq_true q508
                                  go_wp2
                                  repeat (go_quiet (fail); try go_wp2)
                                  go_roundg k3
                                  case measure => have := HJ8.out; have := HJ19.out; have := HK3.out; omega
                                  case rel => exact ⟨(x18_3), (wrap64 (x77_3 + 1)), (by first | rfl | (simp; done) | (simp [*]; done)), H', ⟨by have := HJ8.out; have := HJ19.out; have := HK3.out; omega⟩, ⟨by (with_reducible repeat (first | apply Kd.R_alloc | apply Kd.R_drewN | apply Kd.R_drew)); exact HO_12.out⟩, ⟨by (with_reducible repeat (first | apply Kd.R_alloc | apply Kd.R_drewN | apply Kd.R_drew)); exact HO_13.out⟩, ⟨by (with_reducible repeat (first | apply Kd.R_alloc | apply Kd.R_drewN | apply Kd.R_drew)); exact HO_17.out⟩, ⟨by (with_reducible repeat (first | apply Kd.R_alloc | apply Kd.R_drewN | apply Kd.R_drew)); exact HO_18.out⟩, ⟨by (with_reducible repeat (first | apply Kd.R_alloc | apply Kd.R_drewN | apply Kd.R_drew)); exact HO_75.out⟩, ⟨by repeat (first | (with_reducible first | exact HB.out | apply below_alloc | apply pw_below_drewN | apply below_drew1) | exact HB.out)⟩⟩
                              · rw [if_neg c40] at H
                                exact absurd H (by simp)
                            · rw [if_neg c39] at H
                              exact absurd H (by simp)
                          · rw [if_neg c38] at H
                            have c38b0 : decide (x77_3 < (y505.length : Int)) = false := decide_eq_false c38
                            clear c38
                            replace H := Option.bind_eq_some_iff.mp H
                            obtain ⟨t511, A510, H⟩ := H
                            replace H : (if t511 = true then ((dialtonelaw24_pick.f a4 8).bind fun t512 => ((route_Path.f k3 t477 x13_8 x14_8 t512).bind fun bt513 => ((route_Path.f k3 y496 x18_3 (wrap64 (x14_8 + 1)) t512).bind fun bt518 => (if bt513.2.2 = 0 then (dialtonelaw24_RouteMoves.j3 k3 (rd t477 (ji16)) x16_19 bt513.1 bt513.2.2 bt518.1 bt518.2.2 (bt518.2.2 != 0)) else (dialtonelaw24_RouteMoves.j3 k3 (rd t477 (ji16)) x16_19 bt513.1 bt513.2.2 bt518.1 bt518.2.2 true))))) else (none)) = some r := H
                            have A51 := Aside0.mk A510
                            clear A510
                            by_cases c52 : t511 = true
                            · subst c52
                              have H1 : ((dialtonelaw24_pick.f a4 8).bind fun t512 => ((route_Path.f k3 t477 x13_8 x14_8 t512).bind fun bt513 => ((route_Path.f k3 y496 x18_3 (wrap64 (x14_8 + 1)) t512).bind fun bt518 => (if bt513.2.2 = 0 then (dialtonelaw24_RouteMoves.j3 k3 (rd t477 (ji16)) x16_19 bt513.1 bt513.2.2 bt518.1 bt518.2.2 (bt518.2.2 != 0)) else (dialtonelaw24_RouteMoves.j3 k3 (rd t477 (ji16)) x16_19 bt513.1 bt513.2.2 bt518.1 bt518.2.2 true))))) = some r := by rw [if_pos rfl] at H; exact H
                              clear H
                              have H := H1
                              clear H1
                              replace H := Option.bind_eq_some_iff.mp H
                              obtain ⟨t512, A530, H⟩ := H
                              replace H : ((route_Path.f k3 t477 x13_8 x14_8 t512).bind fun bt513 => ((route_Path.f k3 y496 x18_3 (wrap64 (x14_8 + 1)) t512).bind fun bt518 => (if bt513.2.2 = 0 then (dialtonelaw24_RouteMoves.j3 k3 (rd t477 (ji16)) x16_19 bt513.1 bt513.2.2 bt518.1 bt518.2.2 (bt518.2.2 != 0)) else (dialtonelaw24_RouteMoves.j3 k3 (rd t477 (ji16)) x16_19 bt513.1 bt513.2.2 bt518.1 bt518.2.2 true)))) = some r := H
                              have A53 := Aside0.mk A530
                              clear A530
                              replace H := Option.bind_eq_some_iff.mp H
                              obtain ⟨⟨t513, t514, t515⟩, A540, H⟩ := H
                              replace H : ((route_Path.f k3 y496 x18_3 (wrap64 (x14_8 + 1)) t512).bind fun bt518 => (if t515 = 0 then (dialtonelaw24_RouteMoves.j3 k3 (rd t477 (ji16)) x16_19 t513 t515 bt518.1 bt518.2.2 (bt518.2.2 != 0)) else (dialtonelaw24_RouteMoves.j3 k3 (rd t477 (ji16)) x16_19 t513 t515 bt518.1 bt518.2.2 true))) = some r := H
                              have A54 := Aside0.mk A540
                              clear A540
                              replace H := Option.bind_eq_some_iff.mp H
                              obtain ⟨⟨t518, t519, t520⟩, A550, H⟩ := H
                              replace H : (if t515 = 0 then (dialtonelaw24_RouteMoves.j3 k3 (rd t477 (ji16)) x16_19 t513 t515 t518 t520 (t520 != 0)) else (dialtonelaw24_RouteMoves.j3 k3 (rd t477 (ji16)) x16_19 t513 t515 t518 t520 true)) = some r := H
                              have A55 := Aside0.mk A550
                              clear A550
                              have HC56 := Aside0.mk H
                              clear H
                              obtain ⟨Ao57, co57, eo57⟩ := Kd.R_slice HO_17.out
                              subst eo57
                              obtain ⟨Ao58, co58, eo58⟩ := Kd.R_slice HO_18.out
                              subst eo58
                              go_upto_region 25 with (first | (go_at_call 14; (with_reducible refine (route_Valid.calls _ _ y496 _ _ x18_3 (wrap64 (x14_8 + 1)) true _ ?side1 ?side2 ?side3 ?side4 A51.out).mono ?_); (case side1 => repeat (first | exact (Kd.R_reads' HO_17.out).2.2 | (with_reducible refine Kd.C_alloc ?_ _) | (with_reducible refine Kd.C_drewN ?_ _) | (with_reducible refine Kd.C_drew ?_))); (case side2 => exact (Kd.R_reads' HO_17.out).2.1); (case side3 => repeat (first | exact (Kd.R_reads' HO_18.out).2.2 | (with_reducible refine Kd.C_alloc ?_ _) | (with_reducible refine Kd.C_drewN ?_ _) | (with_reducible refine Kd.C_drew ?_))); (case side4 => exact (Kd.R_reads' HO_18.out).2.1); rintro e w59 ⟨rfl, hb⟩; have n0_ := Aside0.mk (Kd.R_below (by (with_reducible repeat (first | apply Kd.R_alloc | apply Kd.R_drewN | apply Kd.R_drew)); exact HO_12.out) hb); have n1_ := Aside0.mk (Kd.R_below (by (with_reducible repeat (first | apply Kd.R_alloc | apply Kd.R_drewN | apply Kd.R_drew)); exact HO_13.out) hb); have n2_ := Aside0.mk (Kd.R_below (by (with_reducible repeat (first | apply Kd.R_alloc | apply Kd.R_drewN | apply Kd.R_drew)); exact HO_17.out) hb); have n3_ := Aside0.mk (Kd.R_below (by (with_reducible repeat (first | apply Kd.R_alloc | apply Kd.R_drewN | apply Kd.R_drew)); exact HO_18.out) hb); have n4_ := Aside0.mk (Kd.R_below (by (with_reducible repeat (first | apply Kd.R_alloc | apply Kd.R_drewN | apply Kd.R_drew)); exact HO_75.out) hb); have n5_ := Aside0.mk (below_step (by repeat (first | (with_reducible first | exact HB.out | apply below_alloc | apply pw_below_drewN | apply below_drew1) | exact HB.out)) hb); clear HO_12; clear HO_13; clear HO_17; clear HO_18; clear HO_75; clear HB; have HO_12 := n0_; have HO_13 := n1_; have HO_17 := n2_; have HO_18 := n3_; have HO_75 := n4_; have HB := n5_; clear n0_ n1_ n2_ n3_ n4_ n5_; (try clear hb); (try clear hb2); (try clear hk); (try clear hi)) | (go_at_call 13; (with_reducible refine (dialtonelaw24_pick.calls a4 8 t512 _ A53.out).mono ?_); rintro e w' ⟨rfl, ⟨nd, rfl⟩⟩; (try first | exact ⟨rfl, _, World.drewN_drewN _ _ _⟩ | exact ⟨rfl, _, Eq.trans (World.drewN_drewN _ _ _) (congrArg (World.drewN _) (Nat.add_assoc _ _ _))⟩)) | (go_at_call 16; (with_reducible refine (route_Path.calls k3 _ _ t477 _ _ x13_8 x14_8 t512 t513 t514 t515 _ ?side1 ?side2 ?side3 ?side4 A54.out).mono ?_); (case side1 => repeat (first | exact (Kd.R_reads' HO_12.out).2.2 | (with_reducible refine Kd.C_alloc ?_ _) | (with_reducible refine Kd.C_drewN ?_ _) | (with_reducible refine Kd.C_drew ?_))); (case side2 => exact (Kd.R_reads' HO_12.out).2.1); (case side3 => repeat (first | exact (Kd.R_reads' HO_13.out).2.2 | (with_reducible refine Kd.C_alloc ?_ _) | (with_reducible refine Kd.C_drewN ?_ _) | (with_reducible refine Kd.C_drew ?_))); (case side4 => exact (Kd.R_reads' HO_13.out).2.1); rintro e w60 ⟨v516, rfl, ho0, hb⟩; have n0_ := Aside0.mk (Kd.R_below (by (with_reducible repeat (first | apply Kd.R_alloc | apply Kd.R_drewN | apply Kd.R_drew)); exact HO_12.out) hb); have n1_ := Aside0.mk (Kd.R_below (by (with_reducible repeat (first | apply Kd.R_alloc | apply Kd.R_drewN | apply Kd.R_drew)); exact HO_13.out) hb); have n2_ := Aside0.mk (Kd.R_below (by (with_reducible repeat (first | apply Kd.R_alloc | apply Kd.R_drewN | apply Kd.R_drew)); exact HO_17.out) hb); have n3_ := Aside0.mk (Kd.R_below (by (with_reducible repeat (first | apply Kd.R_alloc | apply Kd.R_drewN | apply Kd.R_drew)); exact HO_18.out) hb); have n4_ := Aside0.mk (Kd.R_below (by (with_reducible repeat (first | apply Kd.R_alloc | apply Kd.R_drewN | apply Kd.R_drew)); exact HO_75.out) hb); have n5_ := Aside0.mk (Kd.R_lower ho0 (below_size (by repeat (first | (with_reducible first | exact HB.out | apply below_alloc | apply pw_below_drewN | apply below_drew1) | exact HB.out)))); have n6_ := Aside0.mk (below_step (by repeat (first | (with_reducible first | exact HB.out | apply below_alloc | apply pw_below_drewN | apply below_drew1) | exact HB.out)) hb); clear HO_12; clear HO_13; clear HO_17; clear HO_18; clear HO_75; clear HB; have HO_12 := n0_; have HO_13 := n1_; have HO_17 := n2_; have HO_18 := n3_; have HO_75 := n4_; have HO517 := n5_; have HB := n6_; clear n0_ n1_ n2_ n3_ n4_ n5_ n6_; (try clear hb); (try clear hb2); (try clear hk); (try clear hi); (try clear ho0)) | (go_at_call 16; (with_reducible refine (route_Path.calls k3 _ _ y496 _ _ x18_3 (wrap64 (x14_8 + 1)) t512 t518 t519 t520 _ ?side1 ?side2 ?side3 ?side4 A55.out).mono ?_); (case side1 => repeat (first | exact (Kd.R_reads' HO_17.out).2.2 | (with_reducible refine Kd.C_alloc ?_ _) | (with_reducible refine Kd.C_drewN ?_ _) | (with_reducible refine Kd.C_drew ?_))); (case side2 => exact (Kd.R_reads' HO_17.out).2.1); (case side3 => repeat (first | exact (Kd.R_reads' HO_18.out).2.2 | (with_reducible refine Kd.C_alloc ?_ _) | (with_reducible refine Kd.C_drewN ?_ _) | (with_reducible refine Kd.C_drew ?_))); (case side4 => exact (Kd.R_reads' HO_18.out).2.1); rintro e w61 ⟨v521, rfl, ho0, hb⟩; have n0_ := Aside0.mk (Kd.R_below (by (with_reducible repeat (first | apply Kd.R_alloc | apply Kd.R_drewN | apply Kd.R_drew)); exact HO_12.out) hb); have n1_ := Aside0.mk (Kd.R_below (by (with_reducible repeat (first | apply Kd.R_alloc | apply Kd.R_drewN | apply Kd.R_drew)); exact HO_13.out) hb); have n2_ := Aside0.mk (Kd.R_below (by (with_reducible repeat (first | apply Kd.R_alloc | apply Kd.R_drewN | apply Kd.R_drew)); exact HO_17.out) hb); have n3_ := Aside0.mk (Kd.R_below (by (with_reducible repeat (first | apply Kd.R_alloc | apply Kd.R_drewN | apply Kd.R_drew)); exact HO_18.out) hb); have n4_ := Aside0.mk (Kd.R_below (by (with_reducible repeat (first | apply Kd.R_alloc | apply Kd.R_drewN | apply Kd.R_drew)); exact HO_75.out) hb); have n5_ := Aside0.mk (Kd.R_elder' (by (with_reducible repeat (first | apply Kd.R_alloc | apply Kd.R_drewN | apply Kd.R_drew)); exact HO517.out) (Kd.R_base ho0) hb); have n6_ := Aside0.mk (Kd.R_lower (Kd.R_new' ho0 (Kd.R_lt (by (with_reducible repeat (first | apply Kd.R_alloc | apply Kd.R_drewN | apply Kd.R_drew)); exact HO517.out))) (below_size (by repeat (first | (with_reducible first | exact HB.out | apply below_alloc | apply pw_below_drewN | apply below_drew1) | exact HB.out)))); have n7_ := Aside0.mk (below_step (by repeat (first | (with_reducible first | exact HB.out | apply below_alloc | apply pw_below_drewN | apply below_drew1) | exact HB.out)) hb); clear HO_12; clear HO_13; clear HO_17; clear HO_18; clear HO_75; clear HO517; clear HB; have HO_12 := n0_; have HO_13 := n1_; have HO_17 := n2_; have HO_18 := n3_; have HO_75 := n4_; have HO517 := n5_; have HO522 := n6_; have HB := n7_; clear n0_ n1_ n2_ n3_ n4_ n5_ n6_ n7_; (try clear hb); (try clear hb2); (try clear hk); (try clear hi); (try clear ho0)))
                              repeat (go_quiet (first | (go_at_call 14; (with_reducible refine (route_Valid.calls _ _ y496 _ _ x18_3 (wrap64 (x14_8 + 1)) true _ ?side1 ?side2 ?side3 ?side4 A51.out).mono ?_); (case side1 => repeat (first | exact (Kd.R_reads' HO_17.out).2.2 | (with_reducible refine Kd.C_alloc ?_ _) | (with_reducible refine Kd.C_drewN ?_ _) | (with_reducible refine Kd.C_drew ?_))); (case side2 => exact (Kd.R_reads' HO_17.out).2.1); (case side3 => repeat (first | exact (Kd.R_reads' HO_18.out).2.2 | (with_reducible refine Kd.C_alloc ?_ _) | (with_reducible refine Kd.C_drewN ?_ _) | (with_reducible refine Kd.C_drew ?_))); (case side4 => exact (Kd.R_reads' HO_18.out).2.1); rintro e w59 ⟨rfl, hb⟩; have n0_ := Aside0.mk (Kd.R_below (by (with_reducible repeat (first | apply Kd.R_alloc | apply Kd.R_drewN | apply Kd.R_drew)); exact HO_12.out) hb); have n1_ := Aside0.mk (Kd.R_below (by (with_reducible repeat (first | apply Kd.R_alloc | apply Kd.R_drewN | apply Kd.R_drew)); exact HO_13.out) hb); have n2_ := Aside0.mk (Kd.R_below (by (with_reducible repeat (first | apply Kd.R_alloc | apply Kd.R_drewN | apply Kd.R_drew)); exact HO_17.out) hb); have n3_ := Aside0.mk (Kd.R_below (by (with_reducible repeat (first | apply Kd.R_alloc | apply Kd.R_drewN | apply Kd.R_drew)); exact HO_18.out) hb); have n4_ := Aside0.mk (Kd.R_below (by (with_reducible repeat (first | apply Kd.R_alloc | apply Kd.R_drewN | apply Kd.R_drew)); exact HO_75.out) hb); have n5_ := Aside0.mk (below_step (by repeat (first | (with_reducible first | exact HB.out | apply below_alloc | apply pw_below_drewN | apply below_drew1) | exact HB.out)) hb); clear HO_12; clear HO_13; clear HO_17; clear HO_18; clear HO_75; clear HB; have HO_12 := n0_; have HO_13 := n1_; have HO_17 := n2_; have HO_18 := n3_; have HO_75 := n4_; have HB := n5_; clear n0_ n1_ n2_ n3_ n4_ n5_; (try clear hb); (try clear hb2); (try clear hk); (try clear hi)) | (go_at_call 13; (with_reducible refine (dialtonelaw24_pick.calls a4 8 t512 _ A53.out).mono ?_); rintro e w' ⟨rfl, ⟨nd, rfl⟩⟩; (try first | exact ⟨rfl, _, World.drewN_drewN _ _ _⟩ | exact ⟨rfl, _, Eq.trans (World.drewN_drewN _ _ _) (congrArg (World.drewN _) (Nat.add_assoc _ _ _))⟩)) | (go_at_call 16; (with_reducible refine (route_Path.calls k3 _ _ t477 _ _ x13_8 x14_8 t512 t513 t514 t515 _ ?side1 ?side2 ?side3 ?side4 A54.out).mono ?_); (case side1 => repeat (first | exact (Kd.R_reads' HO_12.out).2.2 | (with_reducible refine Kd.C_alloc ?_ _) | (with_reducible refine Kd.C_drewN ?_ _) | (with_reducible refine Kd.C_drew ?_))); (case side2 => exact (Kd.R_reads' HO_12.out).2.1); (case side3 => repeat (first | exact (Kd.R_reads' HO_13.out).2.2 | (with_reducible refine Kd.C_alloc ?_ _) | (with_reducible refine Kd.C_drewN ?_ _) | (with_reducible refine Kd.C_drew ?_))); (case side4 => exact (Kd.R_reads' HO_13.out).2.1); rintro e w60 ⟨v516, rfl, ho0, hb⟩; have n0_ := Aside0.mk (Kd.R_below (by (with_reducible repeat (first | apply Kd.R_alloc | apply Kd.R_drewN | apply Kd.R_drew)); exact HO_12.out) hb); have n1_ := Aside0.mk (Kd.R_below (by (with_reducible repeat (first | apply Kd.R_alloc | apply Kd.R_drewN | apply Kd.R_drew)); exact HO_13.out) hb); have n2_ := Aside0.mk (Kd.R_below (by (with_reducible repeat (first | apply Kd.R_alloc | apply Kd.R_drewN | apply Kd.R_drew)); exact HO_17.out) hb); have n3_ := Aside0.mk (Kd.R_below (by (with_reducible repeat (first | apply Kd.R_alloc | apply Kd.R_drewN | apply Kd.R_drew)); exact HO_18.out) hb); have n4_ := Aside0.mk (Kd.R_below (by (with_reducible repeat (first | apply Kd.R_alloc | apply Kd.R_drewN | apply Kd.R_drew)); exact HO_75.out) hb); have n5_ := Aside0.mk (Kd.R_lower ho0 (below_size (by repeat (first | (with_reducible first | exact HB.out | apply below_alloc | apply pw_below_drewN | apply below_drew1) | exact HB.out)))); have n6_ := Aside0.mk (below_step (by repeat (first | (with_reducible first | exact HB.out | apply below_alloc | apply pw_below_drewN | apply below_drew1) | exact HB.out)) hb); clear HO_12; clear HO_13; clear HO_17; clear HO_18; clear HO_75; clear HB; have HO_12 := n0_; have HO_13 := n1_; have HO_17 := n2_; have HO_18 := n3_; have HO_75 := n4_; have HO517 := n5_; have HB := n6_; clear n0_ n1_ n2_ n3_ n4_ n5_ n6_; (try clear hb); (try clear hb2); (try clear hk); (try clear hi); (try clear ho0)) | (go_at_call 16; (with_reducible refine (route_Path.calls k3 _ _ y496 _ _ x18_3 (wrap64 (x14_8 + 1)) t512 t518 t519 t520 _ ?side1 ?side2 ?side3 ?side4 A55.out).mono ?_); (case side1 => repeat (first | exact (Kd.R_reads' HO_17.out).2.2 | (with_reducible refine Kd.C_alloc ?_ _) | (with_reducible refine Kd.C_drewN ?_ _) | (with_reducible refine Kd.C_drew ?_))); (case side2 => exact (Kd.R_reads' HO_17.out).2.1); (case side3 => repeat (first | exact (Kd.R_reads' HO_18.out).2.2 | (with_reducible refine Kd.C_alloc ?_ _) | (with_reducible refine Kd.C_drewN ?_ _) | (with_reducible refine Kd.C_drew ?_))); (case side4 => exact (Kd.R_reads' HO_18.out).2.1); rintro e w61 ⟨v521, rfl, ho0, hb⟩; have n0_ := Aside0.mk (Kd.R_below (by (with_reducible repeat (first | apply Kd.R_alloc | apply Kd.R_drewN | apply Kd.R_drew)); exact HO_12.out) hb); have n1_ := Aside0.mk (Kd.R_below (by (with_reducible repeat (first | apply Kd.R_alloc | apply Kd.R_drewN | apply Kd.R_drew)); exact HO_13.out) hb); have n2_ := Aside0.mk (Kd.R_below (by (with_reducible repeat (first | apply Kd.R_alloc | apply Kd.R_drewN | apply Kd.R_drew)); exact HO_17.out) hb); have n3_ := Aside0.mk (Kd.R_below (by (with_reducible repeat (first | apply Kd.R_alloc | apply Kd.R_drewN | apply Kd.R_drew)); exact HO_18.out) hb); have n4_ := Aside0.mk (Kd.R_below (by (with_reducible repeat (first | apply Kd.R_alloc | apply Kd.R_drewN | apply Kd.R_drew)); exact HO_75.out) hb); have n5_ := Aside0.mk (Kd.R_elder' (by (with_reducible repeat (first | apply Kd.R_alloc | apply Kd.R_drewN | apply Kd.R_drew)); exact HO517.out) (Kd.R_base ho0) hb); have n6_ := Aside0.mk (Kd.R_lower (Kd.R_new' ho0 (Kd.R_lt (by (with_reducible repeat (first | apply Kd.R_alloc | apply Kd.R_drewN | apply Kd.R_drew)); exact HO517.out))) (below_size (by repeat (first | (with_reducible first | exact HB.out | apply below_alloc | apply pw_below_drewN | apply below_drew1) | exact HB.out)))); have n7_ := Aside0.mk (below_step (by repeat (first | (with_reducible first | exact HB.out | apply below_alloc | apply pw_below_drewN | apply below_drew1) | exact HB.out)) hb); clear HO_12; clear HO_13; clear HO_17; clear HO_18; clear HO_75; clear HO517; clear HB; have HO_12 := n0_; have HO_13 := n1_; have HO_17 := n2_; have HO_18 := n3_; have HO_75 := n4_; have HO517 := n5_; have HO522 := n6_; have HB := n7_; clear n0_ n1_ n2_ n3_ n4_ n5_ n6_ n7_; (try clear hb); (try clear hb2); (try clear hk); (try clear hi); (try clear ho0))); go_upto_region 25 with (first | (go_at_call 14; (with_reducible refine (route_Valid.calls _ _ y496 _ _ x18_3 (wrap64 (x14_8 + 1)) true _ ?side1 ?side2 ?side3 ?side4 A51.out).mono ?_); (case side1 => repeat (first | exact (Kd.R_reads' HO_17.out).2.2 | (with_reducible refine Kd.C_alloc ?_ _) | (with_reducible refine Kd.C_drewN ?_ _) | (with_reducible refine Kd.C_drew ?_))); (case side2 => exact (Kd.R_reads' HO_17.out).2.1); (case side3 => repeat (first | exact (Kd.R_reads' HO_18.out).2.2 | (with_reducible refine Kd.C_alloc ?_ _) | (with_reducible refine Kd.C_drewN ?_ _) | (with_reducible refine Kd.C_drew ?_))); (case side4 => exact (Kd.R_reads' HO_18.out).2.1); rintro e w59 ⟨rfl, hb⟩; have n0_ := Aside0.mk (Kd.R_below (by (with_reducible repeat (first | apply Kd.R_alloc | apply Kd.R_drewN | apply Kd.R_drew)); exact HO_12.out) hb); have n1_ := Aside0.mk (Kd.R_below (by (with_reducible repeat (first | apply Kd.R_alloc | apply Kd.R_drewN | apply Kd.R_drew)); exact HO_13.out) hb); have n2_ := Aside0.mk (Kd.R_below (by (with_reducible repeat (first | apply Kd.R_alloc | apply Kd.R_drewN | apply Kd.R_drew)); exact HO_17.out) hb); have n3_ := Aside0.mk (Kd.R_below (by (with_reducible repeat (first | apply Kd.R_alloc | apply Kd.R_drewN | apply Kd.R_drew)); exact HO_18.out) hb); have n4_ := Aside0.mk (Kd.R_below (by (with_reducible repeat (first | apply Kd.R_alloc | apply Kd.R_drewN | apply Kd.R_drew)); exact HO_75.out) hb); have n5_ := Aside0.mk (below_step (by repeat (first | (with_reducible first | exact HB.out | apply below_alloc | apply pw_below_drewN | apply below_drew1) | exact HB.out)) hb); clear HO_12; clear HO_13; clear HO_17; clear HO_18; clear HO_75; clear HB; have HO_12 := n0_; have HO_13 := n1_; have HO_17 := n2_; have HO_18 := n3_; have HO_75 := n4_; have HB := n5_; clear n0_ n1_ n2_ n3_ n4_ n5_; (try clear hb); (try clear hb2); (try clear hk); (try clear hi)) | (go_at_call 13; (with_reducible refine (dialtonelaw24_pick.calls a4 8 t512 _ A53.out).mono ?_); rintro e w' ⟨rfl, ⟨nd, rfl⟩⟩; (try first | exact ⟨rfl, _, World.drewN_drewN _ _ _⟩ | exact ⟨rfl, _, Eq.trans (World.drewN_drewN _ _ _) (congrArg (World.drewN _) (Nat.add_assoc _ _ _))⟩)) | (go_at_call 16; (with_reducible refine (route_Path.calls k3 _ _ t477 _ _ x13_8 x14_8 t512 t513 t514 t515 _ ?side1 ?side2 ?side3 ?side4 A54.out).mono ?_); (case side1 => repeat (first | exact (Kd.R_reads' HO_12.out).2.2 | (with_reducible refine Kd.C_alloc ?_ _) | (with_reducible refine Kd.C_drewN ?_ _) | (with_reducible refine Kd.C_drew ?_))); (case side2 => exact (Kd.R_reads' HO_12.out).2.1); (case side3 => repeat (first | exact (Kd.R_reads' HO_13.out).2.2 | (with_reducible refine Kd.C_alloc ?_ _) | (with_reducible refine Kd.C_drewN ?_ _) | (with_reducible refine Kd.C_drew ?_))); (case side4 => exact (Kd.R_reads' HO_13.out).2.1); rintro e w60 ⟨v516, rfl, ho0, hb⟩; have n0_ := Aside0.mk (Kd.R_below (by (with_reducible repeat (first | apply Kd.R_alloc | apply Kd.R_drewN | apply Kd.R_drew)); exact HO_12.out) hb); have n1_ := Aside0.mk (Kd.R_below (by (with_reducible repeat (first | apply Kd.R_alloc | apply Kd.R_drewN | apply Kd.R_drew)); exact HO_13.out) hb); have n2_ := Aside0.mk (Kd.R_below (by (with_reducible repeat (first | apply Kd.R_alloc | apply Kd.R_drewN | apply Kd.R_drew)); exact HO_17.out) hb); have n3_ := Aside0.mk (Kd.R_below (by (with_reducible repeat (first | apply Kd.R_alloc | apply Kd.R_drewN | apply Kd.R_drew)); exact HO_18.out) hb); have n4_ := Aside0.mk (Kd.R_below (by (with_reducible repeat (first | apply Kd.R_alloc | apply Kd.R_drewN | apply Kd.R_drew)); exact HO_75.out) hb); have n5_ := Aside0.mk (Kd.R_lower ho0 (below_size (by repeat (first | (with_reducible first | exact HB.out | apply below_alloc | apply pw_below_drewN | apply below_drew1) | exact HB.out)))); have n6_ := Aside0.mk (below_step (by repeat (first | (with_reducible first | exact HB.out | apply below_alloc | apply pw_below_drewN | apply below_drew1) | exact HB.out)) hb); clear HO_12; clear HO_13; clear HO_17; clear HO_18; clear HO_75; clear HB; have HO_12 := n0_; have HO_13 := n1_; have HO_17 := n2_; have HO_18 := n3_; have HO_75 := n4_; have HO517 := n5_; have HB := n6_; clear n0_ n1_ n2_ n3_ n4_ n5_ n6_; (try clear hb); (try clear hb2); (try clear hk); (try clear hi); (try clear ho0)) | (go_at_call 16; (with_reducible refine (route_Path.calls k3 _ _ y496 _ _ x18_3 (wrap64 (x14_8 + 1)) t512 t518 t519 t520 _ ?side1 ?side2 ?side3 ?side4 A55.out).mono ?_); (case side1 => repeat (first | exact (Kd.R_reads' HO_17.out).2.2 | (with_reducible refine Kd.C_alloc ?_ _) | (with_reducible refine Kd.C_drewN ?_ _) | (with_reducible refine Kd.C_drew ?_))); (case side2 => exact (Kd.R_reads' HO_17.out).2.1); (case side3 => repeat (first | exact (Kd.R_reads' HO_18.out).2.2 | (with_reducible refine Kd.C_alloc ?_ _) | (with_reducible refine Kd.C_drewN ?_ _) | (with_reducible refine Kd.C_drew ?_))); (case side4 => exact (Kd.R_reads' HO_18.out).2.1); rintro e w61 ⟨v521, rfl, ho0, hb⟩; have n0_ := Aside0.mk (Kd.R_below (by (with_reducible repeat (first | apply Kd.R_alloc | apply Kd.R_drewN | apply Kd.R_drew)); exact HO_12.out) hb); have n1_ := Aside0.mk (Kd.R_below (by (with_reducible repeat (first | apply Kd.R_alloc | apply Kd.R_drewN | apply Kd.R_drew)); exact HO_13.out) hb); have n2_ := Aside0.mk (Kd.R_below (by (with_reducible repeat (first | apply Kd.R_alloc | apply Kd.R_drewN | apply Kd.R_drew)); exact HO_17.out) hb); have n3_ := Aside0.mk (Kd.R_below (by (with_reducible repeat (first | apply Kd.R_alloc | apply Kd.R_drewN | apply Kd.R_drew)); exact HO_18.out) hb); have n4_ := Aside0.mk (Kd.R_below (by (with_reducible repeat (first | apply Kd.R_alloc | apply Kd.R_drewN | apply Kd.R_drew)); exact HO_75.out) hb); have n5_ := Aside0.mk (Kd.R_elder' (by (with_reducible repeat (first | apply Kd.R_alloc | apply Kd.R_drewN | apply Kd.R_drew)); exact HO517.out) (Kd.R_base ho0) hb); have n6_ := Aside0.mk (Kd.R_lower (Kd.R_new' ho0 (Kd.R_lt (by (with_reducible repeat (first | apply Kd.R_alloc | apply Kd.R_drewN | apply Kd.R_drew)); exact HO517.out))) (below_size (by repeat (first | (with_reducible first | exact HB.out | apply below_alloc | apply pw_below_drewN | apply below_drew1) | exact HB.out)))); have n7_ := Aside0.mk (below_step (by repeat (first | (with_reducible first | exact HB.out | apply below_alloc | apply pw_below_drewN | apply below_drew1) | exact HB.out)) hb); clear HO_12; clear HO_13; clear HO_17; clear HO_18; clear HO_75; clear HO517; clear HB; have HO_12 := n0_; have HO_13 := n1_; have HO_17 := n2_; have HO_18 := n3_; have HO_75 := n4_; have HO517 := n5_; have HO522 := n6_; have HB := n7_; clear n0_ n1_ n2_ n3_ n4_ n5_ n6_ n7_; (try clear hb); (try clear hb2); (try clear hk); (try clear hi); (try clear ho0))))
                              (try simp only [Act.put, List.setIfInBounds_toArray, List.set_cons_zero, List.set_cons_succ])
                              go_cut [129] (fun v129 wc => ∃ (kq : Nat) (x129_55 : Bool), v129 = .bool x129_55 ∧ Aside0 (dialtonelaw24_RouteMoves.j3 kq (rd t477 (ji16)) x16_19 t513 t515 t518 t520 x129_55 = some r) ∧ Aside0 (kq ≤ k3) ∧ Aside0 (Kd.R k40 40 wc w.heap.size (fun k_ => some k_ ≠ (v521 : Value).ownBlock) v516 t513) ∧ Aside0 (Kd.R k40 40 wc w.heap.size (fun k_ => some k_ ≠ (v516 : Value).ownBlock) v521 t518) ∧ Aside0 (Below w.heap.size w wc))
                              case first =>
                                have H := HC56.out
                                clear HC56
                                by_cases c62 : t515 = 0
                                · rw [if_pos c62] at H
                                  have c62b0 : (t515 == 0) = true := beq_iff_eq.mpr c62
                                  have c62b1 : (t515 != 0) = false := bne_eq_false_iff_eq.mpr c62
                                  clear c62
                                  (first | rw [c62b0] | (simp only [i64_w, i32_w]; rw [c62b0]) | rw [c62b1] | skip)
                                  have H' := Aside0.mk H
                                  clear H
                                  go_wp2
                                  repeat (go_quiet (fail); try go_wp2)
                                  go_meet
                                  case rel => exact ⟨_, ((t520 != 0)), (by first | rfl | (simp; done) | (simp [*]; done)), H', ⟨by have := HJ8.out; have := HJ19.out; have := HK3.out; first | omega | exact Nat.le_refl _⟩, ⟨by (with_reducible repeat (first | apply Kd.R_alloc | apply Kd.R_drewN | apply Kd.R_drew)); exact Kd.R_mono HO517.out (fun _ hk => hk.2)⟩, ⟨by (with_reducible repeat (first | apply Kd.R_alloc | apply Kd.R_drewN | apply Kd.R_drew)); exact Kd.R_mono HO522.out (fun _ hk => hk.2)⟩, ⟨by repeat (first | (with_reducible first | exact HB.out | apply below_alloc | apply pw_below_drewN | apply below_drew1) | exact HB.out)⟩⟩
                                · rw [if_neg c62] at H
                                  have c62b0 : (t515 == 0) = false := beq_eq_false_iff_ne.mpr c62
                                  have c62b1 : (t515 != 0) = true := bne_iff_ne.mpr c62
                                  (first | rw [c62b0] | (simp only [i64_w, i32_w]; rw [c62b0]) | rw [c62b1] | skip)
                                  have H' := Aside0.mk H
                                  clear H
                                  go_wp2
                                  repeat (go_quiet (fail); try go_wp2)
                                  go_meet
                                  case rel => exact ⟨_, (true), (by first | rfl | (simp; done) | (simp [*]; done)), H', ⟨by have := HJ8.out; have := HJ19.out; have := HK3.out; first | omega | exact Nat.le_refl _⟩, ⟨by (with_reducible repeat (first | apply Kd.R_alloc | apply Kd.R_drewN | apply Kd.R_drew)); exact Kd.R_mono HO517.out (fun _ hk => hk.2)⟩, ⟨by (with_reducible repeat (first | apply Kd.R_alloc | apply Kd.R_drewN | apply Kd.R_drew)); exact Kd.R_mono HO522.out (fun _ hk => hk.2)⟩, ⟨by repeat (first | (with_reducible first | exact HB.out | apply below_alloc | apply pw_below_drewN | apply below_drew1) | exact HB.out)⟩⟩
                              case rest =>
                                clear HC56
                                try clear c1
                                try clear c2
                                try clear p2
                                try clear c3
                                try clear c4
                                try clear p4
                                try clear q4
                                try clear hx4
                                try clear c5
                                try clear p5
                                try clear q5
                                try clear hx5
                                try clear c6
                                try clear p6
                                try clear c7
                                try clear c9
                                try clear c12
                                try clear c12b0
                                try clear c12b1
                                try clear c17
                                try clear c17b0
                                try clear c18
                                try clear c18b0
                                try clear c22
                                try clear c22b0
                                try clear c22b1
                                try clear c24
                                try clear c25
                                try clear c26
                                try clear c38
                                try clear c38b0
                                try clear c39
                                try clear c39b0
                                try clear c40
                                try clear c40b0
                                try clear c41
                                try clear c41b0
                                try clear c42
                                try clear c42b0
                                try clear c43
                                try clear c43b0
                                try clear c44
                                try clear c44b0
                                try clear p45
                                try clear q45
                                try clear hx45
                                try clear hf45
                                try clear p48
                                try clear q48
                                try clear hx48
                                try clear p50
                                try clear q50
                                try clear hx50
                                try clear c52
                                try clear c62
                                try clear c62b0
                                try clear c62b1
                                try clear hx45_0
                                try clear hx487_0
                                try clear hx508_0
                                try clear hx509_0
                                try clear p2
                                try clear p4
                                try clear p45
                                try clear p487
                                try clear p508
                                try clear p509
                                try clear p6
                                try clear q4
                                try clear q45
                                try clear q487
                                try clear q508
                                try clear q509
                                obtain ⟨kq, x129_55, rfl, HA, HJ55, HO_22, HO_25, HB⟩ := hcut
                                cases kq with
                                | zero => exact absurd HA.out (by simp [dialtonelaw24_RouteMoves.j3])
                                | succ kj55 =>
                                  have H := HA.out
                                  clear HA
                                  simp only [dialtonelaw24_RouteMoves.j3] at H
                                  by_cases c63 : x129_55 = true
                                  · subst c63
                                    have H1 : (some (t515 == t520)) = some r := by rw [if_pos rfl] at H; exact H
                                    clear H
                                    have H := H1
                                    clear H1
                                    obtain rfl := Option.some.inj H
                                    go_wp2
                                    repeat (go_quiet (fail); try go_wp2)
                                    go_ret
                                    exact ⟨by first | rfl | (simp [errW_none, errW_some] <;> rfl) | (simp only [← hji16]; first | rfl | (simp [errW_none, errW_some] <;> rfl)) | (simp [*, errW_none, errW_some] <;> rfl), by repeat (first | (with_reducible first | exact HB.out | apply below_alloc | apply pw_below_drewN | apply below_drew1) | exact HB.out)⟩
                                  · replace c63 := Bool.eq_false_iff.mpr c63
                                    subst c63
                                    have H1 : (dialtonelaw24_RouteMoves.l1 kj55 (rd t477 (ji16)) x16_19 t513 t518 0) = some r := by rw [if_neg (show ¬ (false = true) by decide)] at H; exact H
                                    clear H
                                    have H := H1
                                    clear H1
                                    have H' := Aside0.mk H
                                    clear H
                                    go_wp2
                                    repeat (go_quiet (fail); try go_wp2)
                                    go_loopg [28] kj55 (fun kq v28 w' => ∃ (x28_5 : Int), v28 = .int .i64 x28_5 ∧ Aside0 (dialtonelaw24_RouteMoves.l1 kq (rd t477 (ji16)) x16_19 t513 t518 x28_5 = some r) ∧ Aside0 (kq ≤ kj55) ∧ Aside0 (Kd.R k40 40 w' w.heap.size (fun k_ => some k_ ≠ (v521 : Value).ownBlock) v516 t513) ∧ Aside0 (Kd.R k40 40 w' w.heap.size (fun k_ => some k_ ≠ (v516 : Value).ownBlock) v521 t518) ∧ Aside0 (Below w.heap.size w w'))
                                    case atStart => exact ⟨(0), (by first | rfl | (simp; done) | (simp [*]; done)), H', ⟨Nat.le_refl _⟩, ⟨by (with_reducible repeat (first | apply Kd.R_alloc | apply Kd.R_drewN | apply Kd.R_drew)); exact HO_22.out⟩, ⟨by (with_reducible repeat (first | apply Kd.R_alloc | apply Kd.R_drewN | apply Kd.R_drew)); exact HO_25.out⟩, ⟨by repeat (first | (with_reducible first | exact HB.out | apply below_alloc | apply pw_below_drewN | apply below_drew1) | exact HB.out)⟩⟩
                                    case round =>
                                      clear H'
                                      try clear c1
                                      try clear c2
                                      try clear p2
                                      try clear c3
                                      try clear c4
                                      try clear p4
                                      try clear q4
                                      try clear hx4
                                      try clear c5
                                      try clear p5
                                      try clear q5
                                      try clear hx5
                                      try clear c6
                                      try clear p6
                                      try clear c7
                                      try clear c9
                                      try clear c12
                                      try clear c12b0
                                      try clear c12b1
                                      try clear c17
                                      try clear c17b0
                                      try clear c18
                                      try clear c18b0
                                      try clear c22
                                      try clear c22b0
                                      try clear c22b1
                                      try clear c24
                                      try clear c25
                                      try clear c26
                                      try clear c38
                                      try clear c38b0
                                      try clear c39
                                      try clear c39b0
                                      try clear c40
                                      try clear c40b0
                                      try clear c41
                                      try clear c41b0
                                      try clear c42
                                      try clear c42b0
                                      try clear c43
                                      try clear c43b0
                                      try clear c44
                                      try clear c44b0
                                      try clear p45
                                      try clear q45
                                      try clear hx45
                                      try clear hf45
                                      try clear p48
                                      try clear q48
                                      try clear hx48
                                      try clear p50
                                      try clear q50
                                      try clear hx50
                                      try clear c52
                                      try clear c62
                                      try clear c62b0
                                      try clear c62b1
                                      try clear c63
                                      try clear hx45_0
                                      try clear hx487_0
                                      try clear hx508_0
                                      try clear hx509_0
                                      try clear p2
                                      try clear p4
                                      try clear p45
                                      try clear p48
                                      try clear p487
                                      try clear p5
                                      try clear p50
                                      try clear p508
                                      try clear p509
                                      try clear p6
                                      try clear q4
                                      try clear q45
                                      try clear q48
                                      try clear q487
                                      try clear q5
                                      try clear q50
                                      try clear q508
                                      try clear q509
                                      obtain ⟨x28_5, rfl, HA, HK5, HO_22, HO_25, HB⟩ := hrel
                                      cases gk with
                                      | zero => exact absurd HA.out (by simp [dialtonelaw24_RouteMoves.l1])
                                      | succ k5 =>
                                        have H := HA.out
                                        clear HA
                                        simp only [dialtonelaw24_RouteMoves.l1] at H
                                        by_cases c64 : x28_5 < (t518.length : Int)
                                        · rw [if_pos c64] at H
                                          have c64b0 : decide (x28_5 < (t518.length : Int)) = true := decide_eq_true c64
                                          clear c64
                                          have HC65 := Aside0.mk H
                                          clear H
                                          obtain ⟨Ao66, co66, eo66⟩ := Kd.R_slice HO_25.out
                                          subst eo66
                                          go_upto_region 30 with (fail)
                                          repeat (go_quiet (fail); go_upto_region 30 with (fail))
                                          go_cut [154] (fun v154 wc => ∃ (kq : Nat) (x154_64 : Bool), v154 = .bool x154_64 ∧ Aside0 (dialtonelaw24_RouteMoves.j5 kq (rd t477 (ji16)) x16_19 t513 t518 x28_5 x154_64 = some r) ∧ Aside0 (kq ≤ k5) ∧ Aside0 (Kd.R k40 40 wc w.heap.size (fun k_ => some k_ ≠ ((.slice Ao66 t518.length co66) : Value).ownBlock) v516 t513) ∧ Aside0 (Kd.R k40 40 wc w.heap.size (fun k_ => some k_ ≠ (v516 : Value).ownBlock) (.slice Ao66 t518.length co66) t518) ∧ Aside0 (Below w.heap.size w wc))
                                          case first =>
                                            have H := HC65.out
                                            clear HC65
                                            by_cases c67 : 0 ≤ x28_5
                                            · rw [if_pos c67] at H
                                              have c67b0 : decide (0 ≤ x28_5) = true := decide_eq_true c67
                                              clear c67
                                              (first | rw [c67b0] | (simp only [i64_w, i32_w]; rw [c67b0]) | rw [c67b1] | skip)
                                              by_cases c68 : ((rd_T40 t518 x28_5).f0) = (rd t477 (ji16))
                                              · rw [if_pos c68] at H
                                                have c68b0 : (((rd_T40 t518 x28_5).f0) == (rd t477 (ji16))) = true := beq_iff_eq.mpr c68
                                                have c68b1 : (((rd_T40 t518 x28_5).f0) != (rd t477 (ji16))) = false := bne_eq_false_iff_eq.mpr c68
                                                clear c68
                                                have H' := Aside0.mk H
                                                clear H
                                                have p523 : 0 ≤ (x28_5 : Int) := of_decide_eq_true (by first | (with_reducible assumption) | assumption)
                                                have q523 : x28_5 < (t518.length : Int) := of_decide_eq_true (by first | (with_reducible assumption) | assumption)
                                                (try (obtain ⟨Ao_, co_, eo_⟩ := Kd.R_slice HO_25.out; cases eo_))
                                                obtain ⟨ad523, e523, hx523_0, hx523_1⟩ := at_T40 (Kd.R_reads' HO_25.out).2.2 x28_5 p523 q523
                                                cases e523
                                                replace p523 := eq_true p523
                                                replace q523 := eq_true q523
                                                go_wp2
                                                repeat (go_quiet (fail); try go_wp2)
                                                go_meet
                                                case rel => exact ⟨_, (true), (by first | rfl | (simp; done) | (simp [*]; done)), H', ⟨by have := HJ8.out; have := HJ19.out; have := HK3.out; have := HJ55.out; have := HK5.out; first | omega | exact Nat.le_refl _⟩, ⟨by (with_reducible repeat (first | apply Kd.R_alloc | apply Kd.R_drewN | apply Kd.R_drew)); exact HO_22.out⟩, ⟨by (with_reducible repeat (first | apply Kd.R_alloc | apply Kd.R_drewN | apply Kd.R_drew)); exact HO_25.out⟩, ⟨by repeat (first | (with_reducible first | exact HB.out | apply below_alloc | apply pw_below_drewN | apply below_drew1) | exact HB.out)⟩⟩
                                              · rw [if_neg c68] at H
                                                have c68b0 : (((rd_T40 t518 x28_5).f0) == (rd t477 (ji16))) = false := beq_eq_false_iff_ne.mpr c68
                                                have c68b1 : (((rd_T40 t518 x28_5).f0) != (rd t477 (ji16))) = true := bne_iff_ne.mpr c68
                                                have H' := Aside0.mk H
                                                clear H
                                                have p523 : 0 ≤ (x28_5 : Int) := of_decide_eq_true (by first | (with_reducible assumption) | assumption)
                                                have q523 : x28_5 < (t518.length : Int) := of_decide_eq_true (by first | (with_reducible assumption) | assumption)
                                                (try (obtain ⟨Ao_, co_, eo_⟩ := Kd.R_slice HO_25.out; cases eo_))
                                                obtain ⟨ad523, e523, hx523_0, hx523_1⟩ := at_T40 (Kd.R_reads' HO_25.out).2.2 x28_5 p523 q523
                                                cases e523
                                                replace p523 := eq_true p523
                                                replace q523 := eq_true q523
                                                have p524 : 0 ≤ (x28_5 : Int) := of_decide_eq_true (by first | (with_reducible assumption) | assumption)
                                                have q524 : x28_5 < (t518.length : Int) := of_decide_eq_true (by first | (with_reducible assumption) | assumption)
                                                (try (obtain ⟨Ao_, co_, eo_⟩ := Kd.R_slice HO_25.out; cases eo_))
                                                obtain ⟨ad524, e524, hx524_0, hx524_1⟩ := at_T40 (Kd.R_reads' HO_25.out).2.2 x28_5 p524 q524
                                                obtain rfl : ad523 = ad524 := (by injection e524)
                                                replace p524 := eq_true p524
                                                replace q524 := eq_true q524
                                                go_wp2
                                                repeat (go_quiet (fail); try go_wp2)
                                                go_meet
                                                case rel => exact ⟨_, ((((rd_T40 t518 x28_5).f0) == x16_19)), (by first | rfl | (simp; done) | (simp [*]; done)), H', ⟨by have := HJ8.out; have := HJ19.out; have := HK3.out; have := HJ55.out; have := HK5.out; first | omega | exact Nat.le_refl _⟩, ⟨by (with_reducible repeat (first | apply Kd.R_alloc | apply Kd.R_drewN | apply Kd.R_drew)); exact HO_22.out⟩, ⟨by (with_reducible repeat (first | apply Kd.R_alloc | apply Kd.R_drewN | apply Kd.R_drew)); exact HO_25.out⟩, ⟨by repeat (first | (with_reducible first | exact HB.out | apply below_alloc | apply pw_below_drewN | apply below_drew1) | exact HB.out)⟩⟩
                                            · rw [if_neg c67] at H
                                              exact absurd H (by simp)
                                          case rest =>
                                            clear HC65
                                            try clear c1
                                            try clear c2
                                            try clear p2
                                            try clear c3
                                            try clear c4
                                            try clear p4
                                            try clear q4
                                            try clear hx4
                                            try clear c5
                                            try clear p5
                                            try clear q5
                                            try clear hx5
                                            try clear c6
                                            try clear p6
                                            try clear c7
                                            try clear c9
                                            try clear c12
                                            try clear c12b0
                                            try clear c12b1
                                            try clear c17
                                            try clear c17b0
                                            try clear c18
                                            try clear c18b0
                                            try clear c22
                                            try clear c22b0
                                            try clear c22b1
                                            try clear c24
                                            try clear c25
                                            try clear c26
                                            try clear c38
                                            try clear c38b0
                                            try clear c39
                                            try clear c39b0
                                            try clear c40
                                            try clear c40b0
                                            try clear c41
                                            try clear c41b0
                                            try clear c42
                                            try clear c42b0
                                            try clear c43
                                            try clear c43b0
                                            try clear c44
                                            try clear c44b0
                                            try clear p45
                                            try clear q45
                                            try clear hx45
                                            try clear hf45
                                            try clear p48
                                            try clear q48
                                            try clear hx48
                                            try clear p50
                                            try clear q50
                                            try clear hx50
                                            try clear c52
                                            try clear p52
                                            try clear q52
                                            try clear hx52
                                            try clear c62
                                            try clear c62b0
                                            try clear c62b1
                                            try clear c63
                                            try clear c64
                                            try clear c64b0
                                            try clear p64
                                            try clear c67
                                            try clear c67b0
                                            try clear c67b1
                                            try clear c68
                                            try clear c68b0
                                            try clear c68b1
                                            try clear hx45_0
                                            try clear hx487_0
                                            try clear hx508_0
                                            try clear hx509_0
                                            try clear hx523_0
                                            try clear hx523_1
                                            try clear hx524_0
                                            try clear hx524_1
                                            try clear p2
                                            try clear p4
                                            try clear p45
                                            try clear p48
                                            try clear p487
                                            try clear p5
                                            try clear p50
                                            try clear p508
                                            try clear p509
                                            try clear p523
                                            try clear p524
                                            try clear p6
                                            try clear q4
                                            try clear q45
                                            try clear q48
                                            try clear q487
                                            try clear q5
                                            try clear q50
                                            try clear q508
                                            try clear q509
                                            try clear q523
                                            try clear q524
                                            obtain ⟨kq, x154_64, rfl, HA, HJ64, HO_22, HO_25, HB⟩ := hcut
                                            cases kq with
                                            | zero => exact absurd HA.out (by simp [dialtonelaw24_RouteMoves.j5])
                                            | succ kj64 =>
                                              have H := HA.out
                                              clear HA
                                              simp only [dialtonelaw24_RouteMoves.j5] at H
                                              by_cases c69 : x154_64 = true
                                              · subst c69
                                                have H1 : (if x28_5 ≥ (t513.length : Int) then (some true) else (if 0 ≤ x28_5 then (if x28_5 < (t513.length : Int) then (if x28_5 < (t518.length : Int) then (some (((rd_T40 t513 x28_5).f0) == ((rd_T40 t518 x28_5).f0))) else (none)) else (none)) else (none))) = some r := by rw [if_pos rfl] at H; exact H
                                                clear H
                                                have H := H1
                                                clear H1
                                                by_cases c70 : x28_5 ≥ (t513.length : Int)
                                                · rw [if_pos c70] at H
                                                  have c70b0 : decide ((t513.length : Int) ≤ x28_5) = true := decide_eq_true c70
                                                  clear c70
                                                  obtain rfl := Option.some.inj H
                                                  obtain ⟨Ao71, co71, eo71⟩ := Kd.R_slice HO_22.out
                                                  subst eo71
                                                  go_wp2
                                                  repeat (go_quiet (fail); try go_wp2)
                                                  go_ret
                                                  exact ⟨by first | rfl | (simp [errW_none, errW_some] <;> rfl) | (simp only [← hji16]; first | rfl | (simp [errW_none, errW_some] <;> rfl)) | (simp [*, errW_none, errW_some] <;> rfl), by repeat (first | (with_reducible first | exact HB.out | apply below_alloc | apply pw_below_drewN | apply below_drew1) | exact HB.out)⟩
                                                · rw [if_neg c70] at H
                                                  have c70b0 : decide ((t513.length : Int) ≤ x28_5) = false := decide_eq_false c70
                                                  clear c70
                                                  by_cases c72 : 0 ≤ x28_5
                                                  · rw [if_pos c72] at H
                                                    have c72b0 : decide (0 ≤ x28_5) = true := decide_eq_true c72
                                                    clear c72
                                                    by_cases c73 : x28_5 < (t513.length : Int)
                                                    · rw [if_pos c73] at H
                                                      have c73b0 : decide (x28_5 < (t513.length : Int)) = true := decide_eq_true c73
                                                      clear c73
                                                      by_cases c74 : x28_5 < (t518.length : Int)
                                                      · rw [if_pos c74] at H
                                                        have c74b0 : decide (x28_5 < (t518.length : Int)) = true := decide_eq_true c74
                                                        clear c74
                                                        obtain rfl := Option.some.inj H
                                                        obtain ⟨Ao75, co75, eo75⟩ := Kd.R_slice HO_22.out
                                                        subst eo75
                                                        have p525 : 0 ≤ (x28_5 : Int) := of_decide_eq_true (by first | (with_reducible assumption) | assumption)
                                                        have q525 : x28_5 < (t513.length : Int) := of_decide_eq_true (by first | (with_reducible assumption) | assumption)
                                                        (try (obtain ⟨Ao_, co_, eo_⟩ := Kd.R_slice HO_22.out; cases eo_))
                                                        obtain ⟨ad525, e525, hx525_0, hx525_1⟩ := at_T40 (Kd.R_reads' HO_22.out).2.2 x28_5 p525 q525
                                                        cases e525
                                                        replace p525 := eq_true p525
                                                        replace q525 := eq_true q525
                                                        have p526 : 0 ≤ (x28_5 : Int) := of_decide_eq_true (by first | (with_reducible assumption) | assumption)
                                                        have q526 : x28_5 < (t518.length : Int) := of_decide_eq_true (by first | (with_reducible assumption) | assumption)
                                                        (try (obtain ⟨Ao_, co_, eo_⟩ := Kd.R_slice HO_25.out; cases eo_))
                                                        obtain ⟨ad526, e526, hx526_0, hx526_1⟩ := at_T40 (Kd.R_reads' HO_25.out).2.2 x28_5 p526 q526
                                                        cases e526
                                                        replace p526 := eq_true p526
                                                        replace q526 := eq_true q526
                                                        go_wp2
                                                        repeat (go_quiet (fail); try go_wp2)
                                                        go_ret
                                                        exact ⟨by first | rfl | (simp [errW_none, errW_some] <;> rfl) | (simp only [← hji16]; first | rfl | (simp [errW_none, errW_some] <;> rfl)) | (simp [*, errW_none, errW_some] <;> rfl), by repeat (first | (with_reducible first | exact HB.out | apply below_alloc | apply pw_below_drewN | apply below_drew1) | exact HB.out)⟩
                                                      · rw [if_neg c74] at H
                                                        exact absurd H (by simp)
                                                    · rw [if_neg c73] at H
                                                      exact absurd H (by simp)
                                                  · rw [if_neg c72] at H
                                                    exact absurd H (by simp)
                                              · replace c69 := Bool.eq_false_iff.mpr c69
                                                subst c69
                                                have H1 : (if x28_5 ≥ (t513.length : Int) then (none) else (if 0 ≤ x28_5 then (if x28_5 < (t513.length : Int) then (if x28_5 < (t518.length : Int) then (if (!(((rd_T40 t513 x28_5).f0) == ((rd_T40 t518 x28_5).f0)) || (!(((rd_T40 t513 x28_5).f1) == ((rd_T40 t518 x28_5).f1)))) = true then (none) else (dialtonelaw24_RouteMoves.l1 kj64 (rd t477 (ji16)) x16_19 t513 t518 (wrap64 (x28_5 + 1)))) else (none)) else (none)) else (none))) = some r := by rw [if_neg (show ¬ (false = true) by decide)] at H; exact H
                                                clear H
                                                have H := H1
                                                clear H1
                                                by_cases c76 : x28_5 ≥ (t513.length : Int)
                                                · rw [if_pos c76] at H
                                                  exact absurd H (by simp)
                                                · rw [if_neg c76] at H
                                                  have c76b0 : decide ((t513.length : Int) ≤ x28_5) = false := decide_eq_false c76
                                                  clear c76
                                                  by_cases c77 : 0 ≤ x28_5
                                                  · rw [if_pos c77] at H
                                                    have c77b0 : decide (0 ≤ x28_5) = true := decide_eq_true c77
                                                    clear c77
                                                    by_cases c78 : x28_5 < (t513.length : Int)
                                                    · rw [if_pos c78] at H
                                                      have c78b0 : decide (x28_5 < (t513.length : Int)) = true := decide_eq_true c78
                                                      clear c78
                                                      by_cases c79 : x28_5 < (t518.length : Int)
                                                      · rw [if_pos c79] at H
                                                        have c79b0 : decide (x28_5 < (t518.length : Int)) = true := decide_eq_true c79
                                                        clear c79
                                                        by_cases c80 : (!(((rd_T40 t513 x28_5).f0) == ((rd_T40 t518 x28_5).f0)) || (!(((rd_T40 t513 x28_5).f1) == ((rd_T40 t518 x28_5).f1)))) = true
                                                        · rw [if_pos c80] at H
                                                          exact absurd H (by simp)
                                                        · rw [if_neg c80] at H
                                                          have c80b0 : (!(((rd_T40 t513 x28_5).f0) == ((rd_T40 t518 x28_5).f0)) || (!(((rd_T40 t513 x28_5).f1) == ((rd_T40 t518 x28_5).f1)))) = false := by simpa using c80
                                                          clear c80
                                                          have H' := Aside0.mk H
                                                          clear H
                                                          obtain ⟨Ao81, co81, eo81⟩ := Kd.R_slice HO_22.out
                                                          subst eo81
                                                          have p527 : 0 ≤ (x28_5 : Int) := of_decide_eq_true (by first | (with_reducible assumption) | assumption)
                                                          have q527 : x28_5 < (t513.length : Int) := of_decide_eq_true (by first | (with_reducible assumption) | assumption)
                                                          (try (obtain ⟨Ao_, co_, eo_⟩ := Kd.R_slice HO_22.out; cases eo_))
                                                          obtain ⟨ad527, e527, hx527_0, hx527_1⟩ := at_T40 (Kd.R_reads' HO_22.out).2.2 x28_5 p527 q527
                                                          cases e527
                                                          replace p527 := eq_true p527
                                                          replace q527 := eq_true q527
                                                          have p528 : 0 ≤ (x28_5 : Int) := of_decide_eq_true (by first | (with_reducible assumption) | assumption)
                                                          have q528 : x28_5 < (t518.length : Int) := of_decide_eq_true (by first | (with_reducible assumption) | assumption)
                                                          (try (obtain ⟨Ao_, co_, eo_⟩ := Kd.R_slice HO_25.out; cases eo_))
                                                          obtain ⟨ad528, e528, hx528_0, hx528_1⟩ := at_T40 (Kd.R_reads' HO_25.out).2.2 x28_5 p528 q528
                                                          cases e528
                                                          replace p528 := eq_true p528
                                                          replace q528 := eq_true q528
                                                          go_wp2
                                                          repeat (go_quiet (fail); try go_wp2)
                                                          go_roundg kj64
                                                          case measure => have := HJ8.out; have := HJ19.out; have := HK3.out; have := HJ55.out; have := HK5.out; have := HJ64.out; omega
                                                          case rel => exact ⟨(wrap64 (x28_5 + 1)), (by first | rfl | (simp; done) | (simp [*]; done)), H', ⟨by have := HJ8.out; have := HJ19.out; have := HK3.out; have := HJ55.out; have := HK5.out; have := HJ64.out; omega⟩, ⟨by (with_reducible repeat (first | apply Kd.R_alloc | apply Kd.R_drewN | apply Kd.R_drew)); exact HO_22.out⟩, ⟨by (with_reducible repeat (first | apply Kd.R_alloc | apply Kd.R_drewN | apply Kd.R_drew)); exact HO_25.out⟩, ⟨by repeat (first | (with_reducible first | exact HB.out | apply below_alloc | apply pw_below_drewN | apply below_drew1) | exact HB.out)⟩⟩
                                                      · rw [if_neg c79] at H
                                                        exact absurd H (by simp)
                                                    · rw [if_neg c78] at H
                                                      exact absurd H (by simp)
                                                  · rw [if_neg c77] at H
                                                    exact absurd H (by simp)
                                        · rw [if_neg c64] at H
                                          have c64b0 : decide (x28_5 < (t518.length : Int)) = false := decide_eq_false c64
                                          clear c64
                                          obtain rfl := Option.some.inj H
                                          obtain ⟨Ao82, co82, eo82⟩ := Kd.R_slice HO_25.out
                                          subst eo82
                                          obtain ⟨Ao83, co83, eo83⟩ := Kd.R_slice HO_22.out
                                          subst eo83
                                          go_wp2
                                          repeat (go_quiet (fail); try go_wp2)
                                          go_ret
                                          exact ⟨by first | rfl | (simp [errW_none, errW_some] <;> rfl) | (simp only [← hji16]; first | rfl | (simp [errW_none, errW_some] <;> rfl)) | (simp [*, errW_none, errW_some] <;> rfl), by repeat (first | (with_reducible first | exact HB.out | apply below_alloc | apply pw_below_drewN | apply below_drew1) | exact HB.out)⟩
                            · replace c52 := Bool.eq_false_iff.mpr c52
                              subst c52
                              have H1 : (none) = some r := by rw [if_neg (show ¬ (false = true) by decide)] at H; exact H
                              clear H
                              have H := H1
                              clear H1
                              exact absurd H (by simp)
                    · rw [if_neg c26] at H
                      exact absurd H (by simp)
                  · rw [if_neg c25] at H
                    exact absurd H (by simp)
                · rw [if_neg c24] at H
                  exact absurd H (by simp)
          · rw [if_neg c18] at H
            exact absurd H (by simp)
        · rw [if_neg c17] at H
          exact absurd H (by simp)
  · replace c7 := Bool.eq_false_iff.mpr c7
    subst c7
    have H1 : (none) = some r := by rw [if_neg (show ¬ (false = true) by decide)] at H; exact H
    clear H
    have H := H1
    clear H1
    exact absurd H (by simp)

/-- THE ONE PURE STATEMENT of dialtonelaw24_RouteMoves: yours. -/
def dialtonelaw24_RouteMoves.Pure : Prop := ∀ (l0 : List Int) (l1 : List Int) (a2 : Int) (a3 : Int) (a4 : Int), l0.length ≤ maxLen → l0.length * 8 ≤ 140737488351232 → (∀ x ∈ l0, (Lit.int .i64 x).wf = true) → l1.length ≤ maxLen → l1.length * 8 ≤ 140737488351232 → (∀ x ∈ l1, (Lit.int .i64 x).wf = true) → (Lit.int .i64 a2).wf = true → (Lit.int .i64 a3).wf = true → (Lit.int .i64 a4).wf = true → ∃ k, dialtonelaw24_RouteMoves.f k l0 l1 a2 a3 a4 = some true
theorem dialtonelaw24_RouteMoves.walk (P : dialtonelaw24_RouteMoves.Pure) (a0 : Option Addr) (len0 cap0 : Nat) (z0 : List Int) (a1 : Option Addr) (len1 cap1 : Nat) (z1 : List Int) (a2 : Int) (a3 : Int) (a4 : Int) (w : World) (w0 : (a0 = none ∧ len0 = 0 ∧ cap0 = 0 ∧ z0 = []) ∨ ∃ x, a0 = some x ∧ len0 ≤ cap0 ∧ cap0 ≤ maxLen ∧ z0.length = cap0 ∧ (∀ i, i < z0.length → w.cell? (x.add i) = some (.int .i64 (z0.getD i 0))) ∧ ∀ n ∈ z0, (Lit.int .i64 n).wf = true) (y0 : len0 * 8 ≤ 140737488351232) (w1 : (a1 = none ∧ len1 = 0 ∧ cap1 = 0 ∧ z1 = []) ∨ ∃ x, a1 = some x ∧ len1 ≤ cap1 ∧ cap1 ≤ maxLen ∧ z1.length = cap1 ∧ (∀ i, i < z1.length → w.cell? (x.add i) = some (.int .i64 (z1.getD i 0))) ∧ ∀ n ∈ z1, (Lit.int .i64 n).wf = true) (y1 : len1 * 8 ≤ 140737488351232) (w2 : (Lit.int .i64 a2).wf = true) (w3 : (Lit.int .i64 a3).wf = true) (w4 : (Lit.int .i64 a4).wf = true) :
    Calls Try.prog 9 #[.slice a0 len0 cap0, .slice a1 len1 cap1, .int .i64 a2, .int .i64 a3, .int .i64 a4] w fun e w' => e = .returned (.bool true) ∧ Below w.heap.size w w' := by
  obtain ⟨l0, rfl, hr0, hm0, hw0, hc0⟩ := ReadsInt.ofRowC w0
  obtain ⟨l1, rfl, hr1, hm1, hw1, hc1⟩ := ReadsInt.ofRowC w1
  obtain ⟨k, h⟩ := P l0 l1 a2 a3 a4 hm0 y0 hw0 hm1 y1 hw1 w2 w3 w4
  refine (dialtonelaw24_RouteMoves.calls k _ _ l0 _ _ l1 a2 a3 a4 true w (Kd.C_of_reads (d := (0 : Int)) (h1 := fun _ => rfl) hr0) hc0 (Kd.C_of_reads (d := (0 : Int)) (h1 := fun _ => rfl) hr1) hc1 h).mono ?_
  rintro e w' ⟨rfl, hd⟩
  exact ⟨rfl, hd⟩

end Go.Proofs.Ytmiahmpobpokmaa.P
