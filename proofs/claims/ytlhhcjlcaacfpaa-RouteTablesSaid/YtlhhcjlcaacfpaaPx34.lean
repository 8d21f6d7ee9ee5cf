-- PRINTED by print.py (a twelfth state) out of the translation. Not trusted: Lean checks it.
import Derived.Test.YtlhhcjlcaacfpaaPx0
import Derived.Test.YtlhhcjlcaacfpaaPx6
import Derived.Test.YtlhhcjlcaacfpaaPx14
import Derived.Test.YtlhhcjlcaacfpaaQD
import Derived.Test.YtlhhcjlcaacfpaaPx18
import Derived.Test.YtlhhcjlcaacfpaaPx27
import Derived.Test.YtlhhcjlcaacfpaaPx31
import Derived.Test.YtlhhcjlcaacfpaaPx32
import Derived.Test.YtlhhcjlcaacfpaaPx33
namespace Go.Proofs.Ytlhhcjlcaacfpaa.P
open Go.RowKit Go.Proofs.YtlhhcjlcaacfpaaW.PrintWords Go.Proofs.YtlhhcjlcaacfpaaW.PrintLast Go.Proofs.YtlhhcjlcaacfpaaW.PrintMore Go.Proofs.YtlhhcjlcaacfpaaH Go.Proofs.YtlhhcjlcaacfpaaR Go.Proofs.YtlhhcjlcaacfpaaM
attribute [local go_sem] max2_int min2_int max_two min_two max_three min_three max_four min_four   -- for this text's walks alone
set_option linter.unusedVariables false
set_option linter.unusedSimpArgs false

/-! ### dialtonelaw24_RouteTables: function 3 -/
mutual
def dialtonelaw24_RouteTables.j0 : Nat → List Int → Int → Bool → List (S58) → Int → Int → Int → Bool → Option (Bool)
 | 0, _, _, _, _, _, _, _, _ => none
 | k + 1, x5, x6, x15, x16, x17, x19, x20, x72 => if x72 = true then (none) else (if (wrap64 (x20 - x19)) > 10 then (some x15) else (dialtonelaw24_RouteTables.l0 k x5 x6 x16 x17 x19 x20 ([] : List Int) 0))
def dialtonelaw24_RouteTables.l0 : Nat → List Int → Int → List (S58) → Int → Int → Int → List Int → Int → Option (Bool)
 | 0, _, _, _, _, _, _, _, _ => none
 | k + 1, x5, x6, x16, x17, x19, x20, x22, x23 => if x23 ≤ x20 then ((table_Held.f x16 x17 x23).bind fun bt264 => (if bt264.2 = 0 then (if x22.length < 17592186044416 then (dialtonelaw24_RouteTables.l0 k x5 x6 x16 x17 x19 x20 (x22 ++ [bt264.1]) (wrap64 (x23 + 1))) else (none)) else (none))) else ((dialtoneref24_Known.f k x22 (wrap64 (x20 - x19)) x5).bind fun t269 => ((dialtonelaw24_pick.f x6 8).bind fun t272 => ((route_Path.f k x22 t269 (wrap64 (x20 - x19)) t272).bind fun bt273 => (if bt273.2.2 = 0 then (if (bt273.1.length : Int) = 0 then (none) else (if 0 ≤ (wrap64 ((bt273.1.length : Int) - 1)) then (if (wrap64 ((bt273.1.length : Int) - 1)) < (bt273.1.length : Int) then (if ((rd_T39 bt273.1 (wrap64 ((bt273.1.length : Int) - 1))).f1) < x19 then (dialtonelaw24_RouteTables.j2 k x16 x17 x19 x20 x22 bt273.2.1 true ((rd_T39 bt273.1 (wrap64 ((bt273.1.length : Int) - 1))).f0) ((rd_T39 bt273.1 (wrap64 ((bt273.1.length : Int) - 1))).f1)) else (dialtonelaw24_RouteTables.j2 k x16 x17 x19 x20 x22 bt273.2.1 (decide (((rd_T39 bt273.1 (wrap64 ((bt273.1.length : Int) - 1))).f1) > x20)) ((rd_T39 bt273.1 (wrap64 ((bt273.1.length : Int) - 1))).f0) ((rd_T39 bt273.1 (wrap64 ((bt273.1.length : Int) - 1))).f1))) else (none)) else (none))) else (if bt273.2.2 = 240 then (if 0 ≤ t272 then (if t272 < (t269.length : Int) then (some ((rd t269 t272) == (-1))) else (none)) else (none)) else (none))))))
def dialtonelaw24_RouteTables.j2 : Nat → List (S58) → Int → Int → Int → List Int → Int → Bool → Int → Int → Option (Bool)
 | 0, _, _, _, _, _, _, _, _, _ => none
 | k + 1, x16, x17, x19, x20, x22, x29, x144, x281000, x281001 => if x144 = true then (none) else ((table_Between.f x16 x17 x19 x20).bind fun bt281 => (dialtonelaw24_RouteTables.l1 k x22 x29 bt281.1 bt281.2 false 0 x281000 x281001))
def dialtonelaw24_RouteTables.l1 : Nat → List Int → Int → List Int → Int → Bool → Int → Int → Int → Option (Bool)
 | 0, _, _, _, _, _, _, _, _ => none
 | k + 1, x22, x29, x32, x33, x34, x35, x281000, x281001 => if x35 < (x32.length : Int) then (if x34 = true then (dialtonelaw24_RouteTables.l1 k x22 x29 x32 x33 true (wrap64 (x35 + 1)) x281000 x281001) else (if 0 ≤ x35 then (if 0 ≤ x281001 then (if x281001 < (x22.length : Int) then (dialtonelaw24_RouteTables.l1 k x22 x29 x32 x33 ((rd x32 x35) == (rd x22 x281001)) (wrap64 (x35 + 1)) x281000 x281001) else (none)) else (none)) else (none))) else (if x33 = 0 then (if x34 = true then (if 0 ≤ x281001 then (if x281001 < (x22.length : Int) then (if ((x29 == 2) == ((rd x22 x281001) == (-1))) = true then (if x29 = 1 then (some ((rd x22 x281001) == x281000)) else (some true)) else (none)) else (none)) else (none)) else (none)) else (none))
end
def dialtonelaw24_RouteTables.f (k : Nat) (l0 : List (S53)) (a1 : Int) (a2 : Int) (a3 : Int) (a4 : Int) (l5 : List Int) (a6 : Int) : Option (Bool) := (dialtonelaw24_sane.f k).bind fun t254 => (if t254 = true then ((dialtoneref23_Made.f k l0).bind fun t255 => ((dialtoneref23_Near.f k t255 a1 a2).bind fun t258 => ((dialtonelaw24_pick.f a3 60).bind fun t259 => ((dialtonelaw24_pick.f a4 20).bind fun t260 => ((table_Known.f k t255 t259 t260).bind fun bt261 => (if bt261.2.2 = 0 then (if bt261.1 < 0 then (dialtonelaw24_RouteTables.j0 k l5 a6 t254 t255 t258 bt261.1 bt261.2.1 true) else (if bt261.2.1 < bt261.1 then (dialtonelaw24_RouteTables.j0 k l5 a6 t254 t255 t258 bt261.1 bt261.2.1 true) else (dialtonelaw24_RouteTables.j0 k l5 a6 t254 t255 t258 bt261.1 bt261.2.1 (decide (bt261.2.1 > (t255.length : Int)))))) else (dialtonelaw24_RouteTables.j0 k l5 a6 t254 t255 t258 bt261.1 bt261.2.1 true))))))) else (none))
theorem dialtonelaw24_RouteTables.mono_l : ∀ k, (∀ y0 y1 y2 y3 y4 y5 y6 y7, LeO (dialtonelaw24_RouteTables.j0 k y0 y1 y2 y3 y4 y5 y6 y7) (dialtonelaw24_RouteTables.j0 (k + 1) y0 y1 y2 y3 y4 y5 y6 y7)) ∧ (∀ y0 y1 y2 y3 y4 y5 y6 y7, LeO (dialtonelaw24_RouteTables.l0 k y0 y1 y2 y3 y4 y5 y6 y7) (dialtonelaw24_RouteTables.l0 (k + 1) y0 y1 y2 y3 y4 y5 y6 y7)) ∧ (∀ y0 y1 y2 y3 y4 y5 y6 y7 y8, LeO (dialtonelaw24_RouteTables.j2 k y0 y1 y2 y3 y4 y5 y6 y7 y8) (dialtonelaw24_RouteTables.j2 (k + 1) y0 y1 y2 y3 y4 y5 y6 y7 y8)) ∧ (∀ y0 y1 y2 y3 y4 y5 y6 y7, LeO (dialtonelaw24_RouteTables.l1 k y0 y1 y2 y3 y4 y5 y6 y7) (dialtonelaw24_RouteTables.l1 (k + 1) y0 y1 y2 y3 y4 y5 y6 y7))
 | 0 => ⟨fun _ _ _ _ _ _ _ _ r h => by simp [dialtonelaw24_RouteTables.j0] at h, fun _ _ _ _ _ _ _ _ r h => by simp [dialtonelaw24_RouteTables.l0] at h, fun _ _ _ _ _ _ _ _ _ r h => by simp [dialtonelaw24_RouteTables.j2] at h, fun _ _ _ _ _ _ _ _ r h => by simp [dialtonelaw24_RouteTables.l1] at h⟩
 | k + 1 => by
  obtain ⟨ih0, ih1, ih2, ih3⟩ := dialtonelaw24_RouteTables.mono_l k
  refine ⟨?_, ?_, ?_, ?_⟩
  ·intro y0 y1 y2 y3 y4 y5 y6 y7
   unfold dialtonelaw24_RouteTables.j0
   repeat' first
   | (with_reducible exact ih0 _ _ _ _ _ _ _ _)
   | (with_reducible exact ih1 _ _ _ _ _ _ _ _)
   | (with_reducible exact ih2 _ _ _ _ _ _ _ _ _)
   | (with_reducible exact ih3 _ _ _ _ _ _ _ _)
   | (with_reducible exact dialtonelaw24_sane.mono _)
   | (with_reducible exact dialtoneref23_Made.mono _ _)
   | (with_reducible exact dialtoneref23_Near.mono _ _ _ _)
   | (with_reducible exact dialtoneref24_Known.mono _ _ _ _)
   | (with_reducible exact route_Path.mono _ _ _ _ _)
   | (with_reducible exact table_Known.mono _ _ _ _)
   | (with_reducible exact LeO.refl _)
   | (with_reducible exact LeO.none _)
   | (with_reducible refine LeO.ite ?_ ?_)
   | (with_reducible refine LeO.bind ?_ (fun _ => ?_))
   | exact ih0 _ _ _ _ _ _ _ _
   | exact ih1 _ _ _ _ _ _ _ _
   | exact ih2 _ _ _ _ _ _ _ _ _
   | exact ih3 _ _ _ _ _ _ _ _
   | exact dialtonelaw24_sane.mono _
   | exact dialtoneref23_Made.mono _ _
   | exact dialtoneref23_Near.mono _ _ _ _
   | exact dialtoneref24_Known.mono _ _ _ _
   | exact route_Path.mono _ _ _ _ _
   | exact table_Known.mono _ _ _ _
   | exact LeO.none _
   | refine LeO.ite ?_ ?_
   | refine LeO.bind ?_ (fun _ => ?_)
  ·intro y0 y1 y2 y3 y4 y5 y6 y7
   unfold dialtonelaw24_RouteTables.l0
   repeat' first
   | (with_reducible exact ih0 _ _ _ _ _ _ _ _)
   | (with_reducible exact ih1 _ _ _ _ _ _ _ _)
   | (with_reducible exact ih2 _ _ _ _ _ _ _ _ _)
   | (with_reducible exact ih3 _ _ _ _ _ _ _ _)
   | (with_reducible exact dialtonelaw24_sane.mono _)
   | (with_reducible exact dialtoneref23_Made.mono _ _)
   | (with_reducible exact dialtoneref23_Near.mono _ _ _ _)
   | (with_reducible exact dialtoneref24_Known.mono _ _ _ _)
   | (with_reducible exact route_Path.mono _ _ _ _ _)
   | (with_reducible exact table_Known.mono _ _ _ _)
   | (with_reducible exact LeO.refl _)
   | (with_reducible exact LeO.none _)
   | (with_reducible refine LeO.ite ?_ ?_)
   | (with_reducible refine LeO.bind ?_ (fun _ => ?_))
   | exact ih0 _ _ _ _ _ _ _ _
   | exact ih1 _ _ _ _ _ _ _ _
   | exact ih2 _ _ _ _ _ _ _ _ _
   | exact ih3 _ _ _ _ _ _ _ _
   | exact dialtonelaw24_sane.mono _
   | exact dialtoneref23_Made.mono _ _
   | exact dialtoneref23_Near.mono _ _ _ _
   | exact dialtoneref24_Known.mono _ _ _ _
   | exact route_Path.mono _ _ _ _ _
   | exact table_Known.mono _ _ _ _
   | exact LeO.none _
   | refine LeO.ite ?_ ?_
   | refine LeO.bind ?_ (fun _ => ?_)
  ·intro y0 y1 y2 y3 y4 y5 y6 y7 y8
   unfold dialtonelaw24_RouteTables.j2
   repeat' first
   | (with_reducible exact ih0 _ _ _ _ _ _ _ _)
   | (with_reducible exact ih1 _ _ _ _ _ _ _ _)
   | (with_reducible exact ih2 _ _ _ _ _ _ _ _ _)
   | (with_reducible exact ih3 _ _ _ _ _ _ _ _)
   | (with_reducible exact dialtonelaw24_sane.mono _)
   | (with_reducible exact dialtoneref23_Made.mono _ _)
   | (with_reducible exact dialtoneref23_Near.mono _ _ _ _)
   | (with_reducible exact dialtoneref24_Known.mono _ _ _ _)
   | (with_reducible exact route_Path.mono _ _ _ _ _)
   | (with_reducible exact table_Known.mono _ _ _ _)
   | (with_reducible exact LeO.refl _)
   | (with_reducible exact LeO.none _)
   | (with_reducible refine LeO.ite ?_ ?_)
   | (with_reducible refine LeO.bind ?_ (fun _ => ?_))
   | exact ih0 _ _ _ _ _ _ _ _
   | exact ih1 _ _ _ _ _ _ _ _
   | exact ih2 _ _ _ _ _ _ _ _ _
   | exact ih3 _ _ _ _ _ _ _ _
   | exact dialtonelaw24_sane.mono _
   | exact dialtoneref23_Made.mono _ _
   | exact dialtoneref23_Near.mono _ _ _ _
   | exact dialtoneref24_Known.mono _ _ _ _
   | exact route_Path.mono _ _ _ _ _
   | exact table_Known.mono _ _ _ _
   | exact LeO.none _
   | refine LeO.ite ?_ ?_
   | refine LeO.bind ?_ (fun _ => ?_)
  ·intro y0 y1 y2 y3 y4 y5 y6 y7
   unfold dialtonelaw24_RouteTables.l1
   repeat' first
   | (with_reducible exact ih0 _ _ _ _ _ _ _ _)
   | (with_reducible exact ih1 _ _ _ _ _ _ _ _)
   | (with_reducible exact ih2 _ _ _ _ _ _ _ _ _)
   | (with_reducible exact ih3 _ _ _ _ _ _ _ _)
   | (with_reducible exact dialtonelaw24_sane.mono _)
   | (with_reducible exact dialtoneref23_Made.mono _ _)
   | (with_reducible exact dialtoneref23_Near.mono _ _ _ _)
   | (with_reducible exact dialtoneref24_Known.mono _ _ _ _)
   | (with_reducible exact route_Path.mono _ _ _ _ _)
   | (with_reducible exact table_Known.mono _ _ _ _)
   | (with_reducible exact LeO.refl _)
   | (with_reducible exact LeO.none _)
   | (with_reducible refine LeO.ite ?_ ?_)
   | (with_reducible refine LeO.bind ?_ (fun _ => ?_))
   | exact ih0 _ _ _ _ _ _ _ _
   | exact ih1 _ _ _ _ _ _ _ _
   | exact ih2 _ _ _ _ _ _ _ _ _
   | exact ih3 _ _ _ _ _ _ _ _
   | exact dialtonelaw24_sane.mono _
   | exact dialtoneref23_Made.mono _ _
   | exact dialtoneref23_Near.mono _ _ _ _
   | exact dialtoneref24_Known.mono _ _ _ _
   | exact route_Path.mono _ _ _ _ _
   | exact table_Known.mono _ _ _ _
   | exact LeO.none _
   | refine LeO.ite ?_ ?_
   | refine LeO.bind ?_ (fun _ => ?_)
theorem dialtonelaw24_RouteTables.mono : ∀ a0 a1 a2 a3 a4 a5 a6 k, LeO (dialtonelaw24_RouteTables.f k a0 a1 a2 a3 a4 a5 a6) (dialtonelaw24_RouteTables.f (k + 1) a0 a1 a2 a3 a4 a5 a6) := by
 intro a0 a1 a2 a3 a4 a5 a6 k
 obtain ⟨ih0, ih1, ih2, ih3⟩ := dialtonelaw24_RouteTables.mono_l k
 unfold dialtonelaw24_RouteTables.f
 repeat' first
   | (with_reducible exact ih0 _ _ _ _ _ _ _ _)
   | (with_reducible exact ih1 _ _ _ _ _ _ _ _)
   | (with_reducible exact ih2 _ _ _ _ _ _ _ _ _)
   | (with_reducible exact ih3 _ _ _ _ _ _ _ _)
   | (with_reducible exact dialtonelaw24_sane.mono _)
   | (with_reducible exact dialtoneref23_Made.mono _ _)
   | (with_reducible exact dialtoneref23_Near.mono _ _ _ _)
   | (with_reducible exact dialtoneref24_Known.mono _ _ _ _)
   | (with_reducible exact route_Path.mono _ _ _ _ _)
   | (with_reducible exact table_Known.mono _ _ _ _)
   | (with_reducible exact LeO.refl _)
   | (with_reducible exact LeO.none _)
   | (with_reducible refine LeO.ite ?_ ?_)
   | (with_reducible refine LeO.bind ?_ (fun _ => ?_))
   | exact ih0 _ _ _ _ _ _ _ _
   | exact ih1 _ _ _ _ _ _ _ _
   | exact ih2 _ _ _ _ _ _ _ _ _
   | exact ih3 _ _ _ _ _ _ _ _
   | exact dialtonelaw24_sane.mono _
   | exact dialtoneref23_Made.mono _ _
   | exact dialtoneref23_Near.mono _ _ _ _
   | exact dialtoneref24_Known.mono _ _ _ _
   | exact route_Path.mono _ _ _ _ _
   | exact table_Known.mono _ _ _ _
   | exact LeO.none _
   | refine LeO.ite ?_ ?_
   | refine LeO.bind ?_ (fun _ => ?_)
set_option maxHeartbeats 8000000 in
set_option maxRecDepth 100000 in
theorem dialtonelaw24_RouteTables.calls (k : Nat) (A0 : Option Addr) (c0 : Nat) (l0 : List (S53)) (a1 : Int) (a2 : Int) (a3 : Int) (a4 : Int) (A5 : Option Addr) (c5 : Nat) (l5 : List Int) (a6 : Int) (r : Bool) (w : World) (hr0 : Kd.C k53 w A0 l0.length l0) (hc0 : l0.length ≤ c0) (hr5 : Kd.C (Kd.int .i64) w A5 l5.length l5) (hc5 : l5.length ≤ c5) (h : dialtonelaw24_RouteTables.f k l0 a1 a2 a3 a4 l5 a6 = some r) :
  Calls Try.prog 3 #[.slice A0 l0.length c0, .int .i64 a1, .int .i64 a2, .int .i64 a3, .int .i64 a4, .slice A5 l5.length c5, .int .i64 a6] w fun e w' => e = .returned (.bool r) ∧ Below w.heap.size w w' := by
 have hu39 := Try.underlying39
 have HR0 := Aside0.mk hr0
 have HC0 := Aside0.mk hc0
 clear hr0 hc0
 have HR5 := Aside0.mk hr5
 have HC5 := Aside0.mk hc5
 clear hr5 hc5
 have HB := Aside0.mk (Below.refl w.heap.size w)
 have H : ((dialtonelaw24_sane.f k).bind fun t254 => (if t254 = true then ((dialtoneref23_Made.f k l0).bind fun t255 => ((dialtoneref23_Near.f k t255 a1 a2).bind fun t258 => ((dialtonelaw24_pick.f a3 60).bind fun t259 => ((dialtonelaw24_pick.f a4 20).bind fun t260 => ((table_Known.f k t255 t259 t260).bind fun bt261 => (if bt261.2.2 = 0 then (if bt261.1 < 0 then (dialtonelaw24_RouteTables.j0 k l5 a6 t254 t255 t258 bt261.1 bt261.2.1 true) else (if bt261.2.1 < bt261.1 then (dialtonelaw24_RouteTables.j0 k l5 a6 t254 t255 t258 bt261.1 bt261.2.1 true) else (dialtonelaw24_RouteTables.j0 k l5 a6 t254 t255 t258 bt261.1 bt261.2.1 (decide (bt261.2.1 > (t255.length : Int)))))) else (dialtonelaw24_RouteTables.j0 k l5 a6 t254 t255 t258 bt261.1 bt261.2.1 true))))))) else (none))) = some r := h
 clear h
 replace H := Option.bind_eq_some_iff.mp H
 obtain ⟨t254, A80, H⟩ := H
 replace H : (if t254 = true then ((dialtoneref23_Made.f k l0).bind fun t255 => ((dialtoneref23_Near.f k t255 a1 a2).bind fun t258 => ((dialtonelaw24_pick.f a3 60).bind fun t259 => ((dialtonelaw24_pick.f a4 20).bind fun t260 => ((table_Known.f k t255 t259 t260).bind fun bt261 => (if bt261.2.2 = 0 then (if bt261.1 < 0 then (dialtonelaw24_RouteTables.j0 k l5 a6 t254 t255 t258 bt261.1 bt261.2.1 true) else (if bt261.2.1 < bt261.1 then (dialtonelaw24_RouteTables.j0 k l5 a6 t254 t255 t258 bt261.1 bt261.2.1 true) else (dialtonelaw24_RouteTables.j0 k l5 a6 t254 t255 t258 bt261.1 bt261.2.1 (decide (bt261.2.1 > (t255.length : Int)))))) else (dialtonelaw24_RouteTables.j0 k l5 a6 t254 t255 t258 bt261.1 bt261.2.1 true))))))) else (none)) = some r := H
 have A8 := Aside0.mk A80
 clear A80
 by_cases c9 : t254 = true
 ·subst c9
  have H1 : ((dialtoneref23_Made.f k l0).bind fun t255 => ((dialtoneref23_Near.f k t255 a1 a2).bind fun t258 => ((dialtonelaw24_pick.f a3 60).bind fun t259 => ((dialtonelaw24_pick.f a4 20).bind fun t260 => ((table_Known.f k t255 t259 t260).bind fun bt261 => (if bt261.2.2 = 0 then (if bt261.1 < 0 then (dialtonelaw24_RouteTables.j0 k l5 a6 true t255 t258 bt261.1 bt261.2.1 true) else (if bt261.2.1 < bt261.1 then (dialtonelaw24_RouteTables.j0 k l5 a6 true t255 t258 bt261.1 bt261.2.1 true) else (dialtonelaw24_RouteTables.j0 k l5 a6 true t255 t258 bt261.1 bt261.2.1 (decide (bt261.2.1 > (t255.length : Int)))))) else (dialtonelaw24_RouteTables.j0 k l5 a6 true t255 t258 bt261.1 bt261.2.1 true))))))) = some r := by rw [if_pos rfl] at H; exact H
  clear H
  have H := H1
  clear H1
  replace H := Option.bind_eq_some_iff.mp H
  obtain ⟨t255, A100, H⟩ := H
  replace H : ((dialtoneref23_Near.f k t255 a1 a2).bind fun t258 => ((dialtonelaw24_pick.f a3 60).bind fun t259 => ((dialtonelaw24_pick.f a4 20).bind fun t260 => ((table_Known.f k t255 t259 t260).bind fun bt261 => (if bt261.2.2 = 0 then (if bt261.1 < 0 then (dialtonelaw24_RouteTables.j0 k l5 a6 true t255 t258 bt261.1 bt261.2.1 true) else (if bt261.2.1 < bt261.1 then (dialtonelaw24_RouteTables.j0 k l5 a6 true t255 t258 bt261.1 bt261.2.1 true) else (dialtonelaw24_RouteTables.j0 k l5 a6 true t255 t258 bt261.1 bt261.2.1 (decide (bt261.2.1 > (t255.length : Int)))))) else (dialtonelaw24_RouteTables.j0 k l5 a6 true t255 t258 bt261.1 bt261.2.1 true)))))) = some r := H
  have A10 := Aside0.mk A100
  clear A100
  replace H := Option.bind_eq_some_iff.mp H
  obtain ⟨t258, A110, H⟩ := H
  replace H : ((dialtonelaw24_pick.f a3 60).bind fun t259 => ((dialtonelaw24_pick.f a4 20).bind fun t260 => ((table_Known.f k t255 t259 t260).bind fun bt261 => (if bt261.2.2 = 0 then (if bt261.1 < 0 then (dialtonelaw24_RouteTables.j0 k l5 a6 true t255 t258 bt261.1 bt261.2.1 true) else (if bt261.2.1 < bt261.1 then (dialtonelaw24_RouteTables.j0 k l5 a6 true t255 t258 bt261.1 bt261.2.1 true) else (dialtonelaw24_RouteTables.j0 k l5 a6 true t255 t258 bt261.1 bt261.2.1 (decide (bt261.2.1 > (t255.length : Int)))))) else (dialtonelaw24_RouteTables.j0 k l5 a6 true t255 t258 bt261.1 bt261.2.1 true))))) = some r := H
  have A11 := Aside0.mk A110
  clear A110
  replace H := Option.bind_eq_some_iff.mp H
  obtain ⟨t259, A120, H⟩ := H
  replace H : ((dialtonelaw24_pick.f a4 20).bind fun t260 => ((table_Known.f k t255 t259 t260).bind fun bt261 => (if bt261.2.2 = 0 then (if bt261.1 < 0 then (dialtonelaw24_RouteTables.j0 k l5 a6 true t255 t258 bt261.1 bt261.2.1 true) else (if bt261.2.1 < bt261.1 then (dialtonelaw24_RouteTables.j0 k l5 a6 true t255 t258 bt261.1 bt261.2.1 true) else (dialtonelaw24_RouteTables.j0 k l5 a6 true t255 t258 bt261.1 bt261.2.1 (decide (bt261.2.1 > (t255.length : Int)))))) else (dialtonelaw24_RouteTables.j0 k l5 a6 true t255 t258 bt261.1 bt261.2.1 true)))) = some r := H
  have A12 := Aside0.mk A120
  clear A120
  replace H := Option.bind_eq_some_iff.mp H
  obtain ⟨t260, A130, H⟩ := H
  replace H : ((table_Known.f k t255 t259 t260).bind fun bt261 => (if bt261.2.2 = 0 then (if bt261.1 < 0 then (dialtonelaw24_RouteTables.j0 k l5 a6 true t255 t258 bt261.1 bt261.2.1 true) else (if bt261.2.1 < bt261.1 then (dialtonelaw24_RouteTables.j0 k l5 a6 true t255 t258 bt261.1 bt261.2.1 true) else (dialtonelaw24_RouteTables.j0 k l5 a6 true t255 t258 bt261.1 bt261.2.1 (decide (bt261.2.1 > (t255.length : Int)))))) else (dialtonelaw24_RouteTables.j0 k l5 a6 true t255 t258 bt261.1 bt261.2.1 true))) = some r := H
  have A13 := Aside0.mk A130
  clear A130
  replace H := Option.bind_eq_some_iff.mp H
  obtain ⟨⟨t261, t262, t263⟩, A140, H⟩ := H
  replace H : (if t263 = 0 then (if t261 < 0 then (dialtonelaw24_RouteTables.j0 k l5 a6 true t255 t258 t261 t262 true) else (if t262 < t261 then (dialtonelaw24_RouteTables.j0 k l5 a6 true t255 t258 t261 t262 true) else (dialtonelaw24_RouteTables.j0 k l5 a6 true t255 t258 t261 t262 (decide (t262 > (t255.length : Int)))))) else (dialtonelaw24_RouteTables.j0 k l5 a6 true t255 t258 t261 t262 true)) = some r := H
  have A14 := Aside0.mk A140
  clear A140
  have HC15 := Aside0.mk H
  clear H
  go_enter Try.func3, Try.ntmps3
  go_upto_region 8 with (first | (go_at_call 4; (with_reducible refine (dialtonelaw24_sane.calls k  true _ A8.out).mono ?_); rintro e w16 ⟨rfl, hb⟩; have n0_ := Aside0.mk (below_step (by repeat (first | (with_reducible first | exact HB.out | apply below_alloc | apply pw_below_drewN | apply below_drew1) | exact HB.out)) hb); clear HB; have HB := n0_; clear n0_; (try clear hb); (try clear hb2); (try clear hk); (try clear hi)) | (go_at_call 5; (with_reducible refine (dialtoneref23_Made.calls k _ _ l0 t255 _ ?side1 ?side2 A10.out).mono ?_); (case side1 => repeat (first | exact (Kd.C_below HR0.out HB.out) | (with_reducible refine Kd.C_alloc ?_ _) | (with_reducible refine Kd.C_drewN ?_ _) | (with_reducible refine Kd.C_drew ?_))); (case side2 => exact HC0.out); rintro e w17 ⟨v256, rfl, ho0, hb⟩; have n0_ := Aside0.mk (Kd.R_lower ho0 (below_size (by repeat (first | (with_reducible first | exact HB.out | apply below_alloc | apply pw_below_drewN | apply below_drew1) | exact HB.out)))); have n1_ := Aside0.mk (below_step (by repeat (first | (with_reducible first | exact HB.out | apply below_alloc | apply pw_below_drewN | apply below_drew1) | exact HB.out)) hb); clear HB; have HO257 := n0_; have HB := n1_; clear n0_ n1_; (try clear hb); (try clear hb2); (try clear hk); (try clear hi); (try clear ho0); obtain ⟨Ao18, co18, eo18⟩ := Kd.R_slice HO257.out; subst eo18) | (go_at_call 6; (with_reducible refine (dialtoneref23_Near.calls k _ _ t255 a1 a2 t258 _ ?side1 ?side2 A11.out).mono ?_); (case side1 => repeat (first | exact (Kd.R_reads' HO257.out).2.2 | (with_reducible refine Kd.C_alloc ?_ _) | (with_reducible refine Kd.C_drewN ?_ _) | (with_reducible refine Kd.C_drew ?_))); (case side2 => exact (Kd.R_reads' HO257.out).2.1); rintro e w19 ⟨rfl, hb⟩; have n0_ := Aside0.mk (Kd.R_below (by (with_reducible repeat (first | apply Kd.R_alloc | apply Kd.R_drewN | apply Kd.R_drew)); exact HO257.out) hb); have n1_ := Aside0.mk (below_step (by repeat (first | (with_reducible first | exact HB.out | apply below_alloc | apply pw_below_drewN | apply below_drew1) | exact HB.out)) hb); clear HO257; clear HB; have HO257 := n0_; have HB := n1_; clear n0_ n1_; (try clear hb); (try clear hb2); (try clear hk); (try clear hi)) | (go_at_call 7; (with_reducible refine (dialtonelaw24_pick.calls a3 60 t259 _ A12.out).mono ?_); rintro e w' ⟨rfl, ⟨nd, rfl⟩⟩; (try first | exact ⟨rfl, _, World.drewN_drewN _ _ _⟩ | exact ⟨rfl, _, Eq.trans (World.drewN_drewN _ _ _) (congrArg (World.drewN _) (Nat.add_assoc _ _ _))⟩)) | (go_at_call 7; (with_reducible refine (dialtonelaw24_pick.calls a4 20 t260 _ A13.out).mono ?_); rintro e w' ⟨rfl, ⟨nd, rfl⟩⟩; (try first | exact ⟨rfl, _, World.drewN_drewN _ _ _⟩ | exact ⟨rfl, _, Eq.trans (World.drewN_drewN _ _ _) (congrArg (World.drewN _) (Nat.add_assoc _ _ _))⟩)) | (go_at_call 8; (with_reducible refine (table_Known.calls k _ _ t255 t259 t260 t261 t262 t263 _ ?side1 ?side2 A14.out).mono ?_); (case side1 => repeat (first | exact (Kd.R_reads' HO257.out).2.2 | (with_reducible refine Kd.C_alloc ?_ _) | (with_reducible refine Kd.C_drewN ?_ _) | (with_reducible refine Kd.C_drew ?_))); (case side2 => exact (Kd.R_reads' HO257.out).2.1); rintro e w20 ⟨rfl, hb⟩; have n0_ := Aside0.mk (Kd.R_below (by (with_reducible repeat (first | apply Kd.R_alloc | apply Kd.R_drewN | apply Kd.R_drew)); exact HO257.out) hb); have n1_ := Aside0.mk (below_step (by repeat (first | (with_reducible first | exact HB.out | apply below_alloc | apply pw_below_drewN | apply below_drew1) | exact HB.out)) hb); clear HO257; clear HB; have HO257 := n0_; have HB := n1_; clear n0_ n1_; (try clear hb); (try clear hb2); (try clear hk); (try clear hi)))
  repeat (go_quiet (first | (go_at_call 4; (with_reducible refine (dialtonelaw24_sane.calls k  true _ A8.out).mono ?_); rintro e w16 ⟨rfl, hb⟩; have n0_ := Aside0.mk (below_step (by repeat (first | (with_reducible first | exact HB.out | apply below_alloc | apply pw_below_drewN | apply below_drew1) | exact HB.out)) hb); clear HB; have HB := n0_; clear n0_; (try clear hb); (try clear hb2); (try clear hk); (try clear hi)) | (go_at_call 5; (with_reducible refine (dialtoneref23_Made.calls k _ _ l0 t255 _ ?side1 ?side2 A10.out).mono ?_); (case side1 => repeat (first | exact (Kd.C_below HR0.out HB.out) | (with_reducible refine Kd.C_alloc ?_ _) | (with_reducible refine Kd.C_drewN ?_ _) | (with_reducible refine Kd.C_drew ?_))); (case side2 => exact HC0.out); rintro e w17 ⟨v256, rfl, ho0, hb⟩; have n0_ := Aside0.mk (Kd.R_lower ho0 (below_size (by repeat (first | (with_reducible first | exact HB.out | apply below_alloc | apply pw_below_drewN | apply below_drew1) | exact HB.out)))); have n1_ := Aside0.mk (below_step (by repeat (first | (with_reducible first | exact HB.out | apply below_alloc | apply pw_below_drewN | apply below_drew1) | exact HB.out)) hb); clear HB; have HO257 := n0_; have HB := n1_; clear n0_ n1_; (try clear hb); (try clear hb2); (try clear hk); (try clear hi); (try clear ho0); obtain ⟨Ao18, co18, eo18⟩ := Kd.R_slice HO257.out; subst eo18) | (go_at_call 6; (with_reducible refine (dialtoneref23_Near.calls k _ _ t255 a1 a2 t258 _ ?side1 ?side2 A11.out).mono ?_); (case side1 => repeat (first | exact (Kd.R_reads' HO257.out).2.2 | (with_reducible refine Kd.C_alloc ?_ _) | (with_reducible refine Kd.C_drewN ?_ _) | (with_reducible refine Kd.C_drew ?_))); (case side2 => exact (Kd.R_reads' HO257.out).2.1); rintro e w19 ⟨rfl, hb⟩; have n0_ := Aside0.mk (Kd.R_below (by (with_reducible repeat (first | apply Kd.R_alloc | apply Kd.R_drewN | apply Kd.R_drew)); exact HO257.out) hb); have n1_ := Aside0.mk (below_step (by repeat (first | (with_reducible first | exact HB.out | apply below_alloc | apply pw_below_drewN | apply below_drew1) | exact HB.out)) hb); clear HO257; clear HB; have HO257 := n0_; have HB := n1_; clear n0_ n1_; (try clear hb); (try clear hb2); (try clear hk); (try clear hi)) | (go_at_call 7; (with_reducible refine (dialtonelaw24_pick.calls a3 60 t259 _ A12.out).mono ?_); rintro e w' ⟨rfl, ⟨nd, rfl⟩⟩; (try first | exact ⟨rfl, _, World.drewN_drewN _ _ _⟩ | exact ⟨rfl, _, Eq.trans (World.drewN_drewN _ _ _) (congrArg (World.drewN _) (Nat.add_assoc _ _ _))⟩)) | (go_at_call 7; (with_reducible refine (dialtonelaw24_pick.calls a4 20 t260 _ A13.out).mono ?_); rintro e w' ⟨rfl, ⟨nd, rfl⟩⟩; (try first | exact ⟨rfl, _, World.drewN_drewN _ _ _⟩ | exact ⟨rfl, _, Eq.trans (World.drewN_drewN _ _ _) (congrArg (World.drewN _) (Nat.add_assoc _ _ _))⟩)) | (go_at_call 8; (with_reducible refine (table_Known.calls k _ _ t255 t259 t260 t261 t262 t263 _ ?side1 ?side2 A14.out).mono ?_); (case side1 => repeat (first | exact (Kd.R_reads' HO257.out).2.2 | (with_reducible refine Kd.C_alloc ?_ _) | (with_reducible refine Kd.C_drewN ?_ _) | (with_reducible refine Kd.C_drew ?_))); (case side2 => exact (Kd.R_reads' HO257.out).2.1); rintro e w20 ⟨rfl, hb⟩; have n0_ := Aside0.mk (Kd.R_below (by (with_reducible repeat (first | apply Kd.R_alloc | apply Kd.R_drewN | apply Kd.R_drew)); exact HO257.out) hb); have n1_ := Aside0.mk (below_step (by repeat (first | (with_reducible first | exact HB.out | apply below_alloc | apply pw_below_drewN | apply below_drew1) | exact HB.out)) hb); clear HO257; clear HB; have HO257 := n0_; have HB := n1_; clear n0_ n1_; (try clear hb); (try clear hb2); (try clear hk); (try clear hi))); go_upto_region 8 with (first | (go_at_call 4; (with_reducible refine (dialtonelaw24_sane.calls k  true _ A8.out).mono ?_); rintro e w16 ⟨rfl, hb⟩; have n0_ := Aside0.mk (below_step (by repeat (first | (with_reducible first | exact HB.out | apply below_alloc | apply pw_below_drewN | apply below_drew1) | exact HB.out)) hb); clear HB; have HB := n0_; clear n0_; (try clear hb); (try clear hb2); (try clear hk); (try clear hi)) | (go_at_call 5; (with_reducible refine (dialtoneref23_Made.calls k _ _ l0 t255 _ ?side1 ?side2 A10.out).mono ?_); (case side1 => repeat (first | exact (Kd.C_below HR0.out HB.out) | (with_reducible refine Kd.C_alloc ?_ _) | (with_reducible refine Kd.C_drewN ?_ _) | (with_reducible refine Kd.C_drew ?_))); (case side2 => exact HC0.out); rintro e w17 ⟨v256, rfl, ho0, hb⟩; have n0_ := Aside0.mk (Kd.R_lower ho0 (below_size (by repeat (first | (with_reducible first | exact HB.out | apply below_alloc | apply pw_below_drewN | apply below_drew1) | exact HB.out)))); have n1_ := Aside0.mk (below_step (by repeat (first | (with_reducible first | exact HB.out | apply below_alloc | apply pw_below_drewN | apply below_drew1) | exact HB.out)) hb); clear HB; have HO257 := n0_; have HB := n1_; clear n0_ n1_; (try clear hb); (try clear hb2); (try clear hk); (try clear hi); (try clear ho0); obtain ⟨Ao18, co18, eo18⟩ := Kd.R_slice HO257.out; subst eo18) | (go_at_call 6; (with_reducible refine (dialtoneref23_Near.calls k _ _ t255 a1 a2 t258 _ ?side1 ?side2 A11.out).mono ?_); (case side1 => repeat (first | exact (Kd.R_reads' HO257.out).2.2 | (with_reducible refine Kd.C_alloc ?_ _) | (with_reducible refine Kd.C_drewN ?_ _) | (with_reducible refine Kd.C_drew ?_))); (case side2 => exact (Kd.R_reads' HO257.out).2.1); rintro e w19 ⟨rfl, hb⟩; have n0_ := Aside0.mk (Kd.R_below (by (with_reducible repeat (first | apply Kd.R_alloc | apply Kd.R_drewN | apply Kd.R_drew)); exact HO257.out) hb); have n1_ := Aside0.mk (below_step (by repeat (first | (with_reducible first | exact HB.out | apply below_alloc | apply pw_below_drewN | apply below_drew1) | exact HB.out)) hb); clear HO257; clear HB; have HO257 := n0_; have HB := n1_; clear n0_ n1_; (try clear hb); (try clear hb2); (try clear hk); (try clear hi)) | (go_at_call 7; (with_reducible refine (dialtonelaw24_pick.calls a3 60 t259 _ A12.out).mono ?_); rintro e w' ⟨rfl, ⟨nd, rfl⟩⟩; (try first | exact ⟨rfl, _, World.drewN_drewN _ _ _⟩ | exact ⟨rfl, _, Eq.trans (World.drewN_drewN _ _ _) (congrArg (World.drewN _) (Nat.add_assoc _ _ _))⟩)) | (go_at_call 7; (with_reducible refine (dialtonelaw24_pick.calls a4 20 t260 _ A13.out).mono ?_); rintro e w' ⟨rfl, ⟨nd, rfl⟩⟩; (try first | exact ⟨rfl, _, World.drewN_drewN _ _ _⟩ | exact ⟨rfl, _, Eq.trans (World.drewN_drewN _ _ _) (congrArg (World.drewN _) (Nat.add_assoc _ _ _))⟩)) | (go_at_call 8; (with_reducible refine (table_Known.calls k _ _ t255 t259 t260 t261 t262 t263 _ ?side1 ?side2 A14.out).mono ?_); (case side1 => repeat (first | exact (Kd.R_reads' HO257.out).2.2 | (with_reducible refine Kd.C_alloc ?_ _) | (with_reducible refine Kd.C_drewN ?_ _) | (with_reducible refine Kd.C_drew ?_))); (case side2 => exact (Kd.R_reads' HO257.out).2.1); rintro e w20 ⟨rfl, hb⟩; have n0_ := Aside0.mk (Kd.R_below (by (with_reducible repeat (first | apply Kd.R_alloc | apply Kd.R_drewN | apply Kd.R_drew)); exact HO257.out) hb); have n1_ := Aside0.mk (below_step (by repeat (first | (with_reducible first | exact HB.out | apply below_alloc | apply pw_below_drewN | apply below_drew1) | exact HB.out)) hb); clear HO257; clear HB; have HO257 := n0_; have HB := n1_; clear n0_ n1_; (try clear hb); (try clear hb2); (try clear hk); (try clear hi))))
  (try simp only [Act.put, List.setIfInBounds_toArray, List.set_cons_zero, List.set_cons_succ])
  go_cut [72] (fun v72 wc => ∃ (kq : Nat) (x72_14 : Bool), v72 = .bool x72_14 ∧ Aside0 (dialtonelaw24_RouteTables.j0 kq l5 a6 true t255 t258 t261 t262 x72_14 = some r) ∧ Aside0 (kq ≤ k) ∧ Aside0 (Kd.R k58 58 wc w.heap.size (fun _ => True) (.slice Ao18 t255.length co18) t255) ∧ Aside0 (Below w.heap.size w wc))
  case first =>
   have H := HC15.out
   clear HC15
   by_cases c21 : t263 = 0
   ·rw [if_pos c21] at H
    have c21b0 : (t263 == 0) = true := beq_iff_eq.mpr c21
    have c21b1 : (t263 != 0) = false := bne_eq_false_iff_eq.mpr c21
    clear c21
    (first | rw [c21b0] | (simp only [i64_w, i32_w]; rw [c21b0]) | rw [c21b1] | skip)
    by_cases c22 : t261 < 0
    ·rw [if_pos c22] at H
     have c22b0 : decide (t261 < 0) = true := decide_eq_true c22
     clear c22
     have H' := Aside0.mk H
     clear H
     go_wp2
     repeat (go_quiet (fail); try go_wp2)
     go_meet
     case rel => exact ⟨_, (true), (by first | rfl | (simp; done) | (simp [*]; done)), H', ⟨by first | omega | exact Nat.le_refl _⟩, ⟨by (with_reducible repeat (first | apply Kd.R_alloc | apply Kd.R_drewN | apply Kd.R_drew)); exact HO257.out⟩, ⟨by repeat (first | (with_reducible first | exact HB.out | apply below_alloc | apply pw_below_drewN | apply below_drew1) | exact HB.out)⟩⟩
    ·rw [if_neg c22] at H
     have c22b0 : decide (t261 < 0) = false := decide_eq_false c22
     clear c22
     by_cases c23 : t262 < t261
     ·rw [if_pos c23] at H
      have c23b0 : decide (t262 < t261) = true := decide_eq_true c23
      clear c23
      have H' := Aside0.mk H
      clear H
      go_wp2
      repeat (go_quiet (fail); try go_wp2)
      go_meet
      case rel => exact ⟨_, (true), (by first | rfl | (simp; done) | (simp [*]; done)), H', ⟨by first | omega | exact Nat.le_refl _⟩, ⟨by (with_reducible repeat (first | apply Kd.R_alloc | apply Kd.R_drewN | apply Kd.R_drew)); exact HO257.out⟩, ⟨by repeat (first | (with_reducible first | exact HB.out | apply below_alloc | apply pw_below_drewN | apply below_drew1) | exact HB.out)⟩⟩
     ·rw [if_neg c23] at H
      have c23b0 : decide (t262 < t261) = false := decide_eq_false c23
      clear c23
      have H' := Aside0.mk H
      clear H
      go_wp2
      repeat (go_quiet (fail); try go_wp2)
      go_meet
      case rel => exact ⟨_, (decide (t262 > (t255.length : Int))), (by first | rfl | (simp; done) | (simp [*]; done)), H', ⟨by first | omega | exact Nat.le_refl _⟩, ⟨by (with_reducible repeat (first | apply Kd.R_alloc | apply Kd.R_drewN | apply Kd.R_drew)); exact HO257.out⟩, ⟨by repeat (first | (with_reducible first | exact HB.out | apply below_alloc | apply pw_below_drewN | apply below_drew1) | exact HB.out)⟩⟩
   ·rw [if_neg c21] at H
    have c21b0 : (t263 == 0) = false := beq_eq_false_iff_ne.mpr c21
    have c21b1 : (t263 != 0) = true := bne_iff_ne.mpr c21
    (first | rw [c21b0] | (simp only [i64_w, i32_w]; rw [c21b0]) | rw [c21b1] | skip)
    have H' := Aside0.mk H
    clear H
    go_wp2
    repeat (go_quiet (fail); try go_wp2)
    go_meet
    case rel => exact ⟨_, (true), (by first | rfl | (simp; done) | (simp [*]; done)), H', ⟨by first | omega | exact Nat.le_refl _⟩, ⟨by (with_reducible repeat (first | apply Kd.R_alloc | apply Kd.R_drewN | apply Kd.R_drew)); exact HO257.out⟩, ⟨by repeat (first | (with_reducible first | exact HB.out | apply below_alloc | apply pw_below_drewN | apply below_drew1) | exact HB.out)⟩⟩
  case rest =>
   clear HC15
   try clear c2
   try clear p2
   try clear c3
   try clear c5
   try clear c9
   try clear c21
   try clear c21b0
   try clear c21b1
   try clear c22
   try clear c22b0
   try clear c23
   try clear c23b0
   obtain ⟨kq, x72_14, rfl, HA, HJ14, HO_16, HB⟩ := hcut
   cases kq with
   | zero => exact absurd HA.out (by simp [dialtonelaw24_RouteTables.j0])
   | succ kj14 =>
    have H := HA.out
    clear HA
    simp only [dialtonelaw24_RouteTables.j0] at H
    by_cases c24 : x72_14 = true
    ·subst c24
     have H1 : (none) = some r := by rw [if_pos rfl] at H; exact H
     clear H
     have H := H1
     clear H1
     exact absurd H (by simp)
    ·replace c24 := Bool.eq_false_iff.mpr c24
     subst c24
     have H1 : (if (wrap64 (t262 - t261)) > 10 then (some true) else (dialtonelaw24_RouteTables.l0 kj14 l5 a6 t255 t258 t261 t262 ([] : List Int) 0)) = some r := by rw [if_neg (show ¬ (false = true) by decide)] at H; exact H
     clear H
     have H := H1
     clear H1
     by_cases c25 : (wrap64 (t262 - t261)) > 10
     ·rw [if_pos c25] at H
      have c25b0 : decide (10 < (wrap64 (t262 - t261))) = true := decide_eq_true c25
      clear c25
      obtain rfl := Option.some.inj H
      go_wp2
      repeat (go_quiet (fail); try go_wp2)
      go_ret
      exact ⟨by first | rfl | (simp [errW_none, errW_some] <;> rfl) | (simp [*, errW_none, errW_some] <;> rfl), by repeat (first | (with_reducible first | exact HB.out | apply below_alloc | apply pw_below_drewN | apply below_drew1) | exact HB.out)⟩
     ·rw [if_neg c25] at H
      have c25b0 : decide (10 < (wrap64 (t262 - t261))) = false := decide_eq_false c25
      clear c25
      have H' := Aside0.mk H
      clear H
      go_wp2
      repeat (go_quiet (fail); try go_wp2)
      go_loopg [22, 23] kj14 (fun kq v22 v23 w' => ∃ (x22_2 : List Int) (x23_2 : Int), v23 = .int .i64 x23_2 ∧ Aside0 (dialtonelaw24_RouteTables.l0 kq l5 a6 t255 t258 t261 t262 x22_2 x23_2 = some r) ∧ Aside0 (kq ≤ kj14) ∧ Aside0 (Kd.R k58 58 w' w.heap.size (fun _ => True) (.slice Ao18 t255.length co18) t255) ∧ Aside0 (Kd.R (Kd.int .i64) 3 w' w.heap.size (fun _ => True) v22 x22_2) ∧ Aside0 (Below w.heap.size w w'))
      case atStart => exact ⟨(([] : List Int)), (0), (by first | rfl | (simp; done) | (simp [*]; done)), H', ⟨Nat.le_refl _⟩, ⟨by (with_reducible repeat (first | apply Kd.R_alloc | apply Kd.R_drewN | apply Kd.R_drew)); exact HO_16.out⟩, ⟨by first | exact Kd.R_nil _ _ _ _ _ | exact Kd.N_nil _ _ _ _ _ | exact Kd.V_nil _ _ _ _ _ | exact Kd.Q_nil _ _ _ _ _ | exact Kd.S_nil _ _ _ _ _⟩, ⟨by repeat (first | (with_reducible first | exact HB.out | apply below_alloc | apply pw_below_drewN | apply below_drew1) | exact HB.out)⟩⟩
      case round =>
       clear H'
       try clear c2
       try clear p2
       try clear c3
       try clear c5
       try clear p6
       try clear c9
       try clear c21
       try clear c21b0
       try clear c21b1
       try clear c22
       try clear c22b0
       try clear c23
       try clear c23b0
       try clear c24
       try clear c25
       try clear c25b0
       try clear p2
       obtain ⟨x22_2, x23_2, rfl, HA, HK2, HO_16, HO_22, HB⟩ := hrel
       cases gk with
       | zero => exact absurd HA.out (by simp [dialtonelaw24_RouteTables.l0])
       | succ k2 =>
        have H := HA.out
        clear HA
        simp only [dialtonelaw24_RouteTables.l0] at H
        by_cases c26 : x23_2 ≤ t262
        ·rw [if_pos c26] at H
         have c26b0 : decide (x23_2 ≤ t262) = true := decide_eq_true c26
         clear c26
         replace H := Option.bind_eq_some_iff.mp H
         obtain ⟨⟨t264, t265⟩, A270, H⟩ := H
         replace H : (if t265 = 0 then (if x22_2.length < 17592186044416 then (dialtonelaw24_RouteTables.l0 k2 l5 a6 t255 t258 t261 t262 (x22_2 ++ [t264]) (wrap64 (x23_2 + 1))) else (none)) else (none)) = some r := H
         have A27 := Aside0.mk A270
         clear A270
         by_cases c28 : t265 = 0
         ·rw [if_pos c28] at H
          have c28b0 : (t265 == 0) = true := beq_iff_eq.mpr c28
          have c28b1 : (t265 != 0) = false := bne_eq_false_iff_eq.mpr c28
          clear c28
          by_cases c29 : x22_2.length < 17592186044416
          ·rw [if_pos c29] at H
           have LMc29 := Aside0.mk c29
           clear c29
           obtain ⟨y266, hy266⟩ : ∃ y_ : List Int, y_ = (x22_2 ++ [t264]) := ⟨_, rfl⟩
           replace H : (dialtonelaw24_RouteTables.l0 k2 l5 a6 t255 t258 t261 t262 y266 (wrap64 (x23_2 + 1))) = some r := by first | (rw [hy266]; with_reducible exact H) | (have H2_ := (Option.bind_some _ _).symm.trans H; rw [hy266]; with_reducible exact H2_) | (have H2_ := (Option.bind_some _ _).symm.trans H; with_reducible exact H2_) | with_reducible exact H | (rw [hy266]; exact H) | exact H
           have Ny266 := Aside0.mk hy266
           clear hy266
           have H' := Aside0.mk H
           clear H
           go_wp2_with (first | (go_at_call 9; (with_reducible refine (table_Held.calls _ _ t255 t258 x23_2 t264 t265 _ ?side1 ?side2 A27.out).mono ?_); (case side1 => repeat (first | exact (Kd.R_reads' HO_16.out).2.2 | (with_reducible refine Kd.C_alloc ?_ _) | (with_reducible refine Kd.C_drewN ?_ _) | (with_reducible refine Kd.C_drew ?_))); (case side2 => exact (Kd.R_reads' HO_16.out).2.1); rintro e w30 ⟨rfl, hb⟩; have n0_ := Aside0.mk (Kd.R_below (by (with_reducible repeat (first | apply Kd.R_alloc | apply Kd.R_drewN | apply Kd.R_drew)); exact HO_16.out) hb); have n1_ := Aside0.mk (Kd.R_below (by (with_reducible repeat (first | apply Kd.R_alloc | apply Kd.R_drewN | apply Kd.R_drew)); exact HO_22.out) hb); have n2_ := Aside0.mk (below_step (by repeat (first | (with_reducible first | exact HB.out | apply below_alloc | apply pw_below_drewN | apply below_drew1) | exact HB.out)) hb); clear HO_16; clear HO_22; clear HB; have HO_16 := n0_; have HO_22 := n1_; have HB := n2_; clear n0_ n1_ n2_; (try clear hb); (try clear hb2); (try clear hk); (try clear hi)) | ((with_reducible refine gate_builtin (b := .append) (xs := #[.tmp 92, .tmp 94]) rfl ?_); (try (refine gate_guard (by rfl) ?_; dsimp only)); at_builtin; refine Kd.R_append (Kd.int .i64) (w0 := w) w.heap.size rfl (.tmp 92) (.tmp 94) 23 3 (.int .i64 0) 8 rfl Try.underlying23 info3 rfl (by decide) (by omega) u22 x22_2 t264 [.int .i64 t264] (fun _ => True) (fun _ => False) rfl rfl ?aP (fun _ hk => hk.elim) ?aF ?aO ?aB ?aS ?aL ?_; (case aP => exact rfl); (case aB => exact (by repeat (first | (with_reducible first | exact HB.out | apply below_alloc | apply pw_below_drewN | apply below_drew1) | exact HB.out))); (case aF => exact (fun _ _ => trivial)); (case aO => exact (by (with_reducible repeat (first | apply Kd.R_alloc | apply Kd.R_drewN | apply Kd.R_drew)); exact HO_22.out)); (case aS => exact (below_size (by repeat (first | (with_reducible first | exact HB.out | apply below_alloc | apply pw_below_drewN | apply below_drew1) | exact HB.out)))); (case aL => have := LMc29.out; omega); intro v267 w31 ho hb hg hat; rw [← Ny266.out] at ho; have n0_ := Aside0.mk (Kd.R_over' (by (with_reducible repeat (first | apply Kd.R_alloc | apply Kd.R_drewN | apply Kd.R_drew)); exact HO_16.out) (Kd.R_typed (by (with_reducible repeat (first | apply Kd.R_alloc | apply Kd.R_drewN | apply Kd.R_drew)); exact HO_22.out)) (by decide) hg); have n1_ := Aside0.mk (hb); have n2_ := Aside0.mk (ho); clear HO_16; clear HB; clear HO_22; have HO_16 := n0_; have HB := n1_; have HO268 := n2_; clear n0_ n1_ n2_; clear ho hb hg hat))
           repeat (go_quiet (first | (go_at_call 9; (with_reducible refine (table_Held.calls _ _ t255 t258 x23_2 t264 t265 _ ?side1 ?side2 A27.out).mono ?_); (case side1 => repeat (first | exact (Kd.R_reads' HO_16.out).2.2 | (with_reducible refine Kd.C_alloc ?_ _) | (with_reducible refine Kd.C_drewN ?_ _) | (with_reducible refine Kd.C_drew ?_))); (case side2 => exact (Kd.R_reads' HO_16.out).2.1); rintro e w30 ⟨rfl, hb⟩; have n0_ := Aside0.mk (Kd.R_below (by (with_reducible repeat (first | apply Kd.R_alloc | apply Kd.R_drewN | apply Kd.R_drew)); exact HO_16.out) hb); have n1_ := Aside0.mk (Kd.R_below (by (with_reducible repeat (first | apply Kd.R_alloc | apply Kd.R_drewN | apply Kd.R_drew)); exact HO_22.out) hb); have n2_ := Aside0.mk (below_step (by repeat (first | (with_reducible first | exact HB.out | apply below_alloc | apply pw_below_drewN | apply below_drew1) | exact HB.out)) hb); clear HO_16; clear HO_22; clear HB; have HO_16 := n0_; have HO_22 := n1_; have HB := n2_; clear n0_ n1_ n2_; (try clear hb); (try clear hb2); (try clear hk); (try clear hi)) | ((with_reducible refine gate_builtin (b := .append) (xs := #[.tmp 92, .tmp 94]) rfl ?_); (try (refine gate_guard (by rfl) ?_; dsimp only)); at_builtin; refine Kd.R_append (Kd.int .i64) (w0 := w) w.heap.size rfl (.tmp 92) (.tmp 94) 23 3 (.int .i64 0) 8 rfl Try.underlying23 info3 rfl (by decide) (by omega) u22 x22_2 t264 [.int .i64 t264] (fun _ => True) (fun _ => False) rfl rfl ?aP (fun _ hk => hk.elim) ?aF ?aO ?aB ?aS ?aL ?_; (case aP => exact rfl); (case aB => exact (by repeat (first | (with_reducible first | exact HB.out | apply below_alloc | apply pw_below_drewN | apply below_drew1) | exact HB.out))); (case aF => exact (fun _ _ => trivial)); (case aO => exact (by (with_reducible repeat (first | apply Kd.R_alloc | apply Kd.R_drewN | apply Kd.R_drew)); exact HO_22.out)); (case aS => exact (below_size (by repeat (first | (with_reducible first | exact HB.out | apply below_alloc | apply pw_below_drewN | apply below_drew1) | exact HB.out)))); (case aL => have := LMc29.out; omega); intro v267 w31 ho hb hg hat; rw [← Ny266.out] at ho; have n0_ := Aside0.mk (Kd.R_over' (by (with_reducible repeat (first | apply Kd.R_alloc | apply Kd.R_drewN | apply Kd.R_drew)); exact HO_16.out) (Kd.R_typed (by (with_reducible repeat (first | apply Kd.R_alloc | apply Kd.R_drewN | apply Kd.R_drew)); exact HO_22.out)) (by decide) hg); have n1_ := Aside0.mk (hb); have n2_ := Aside0.mk (ho); clear HO_16; clear HB; clear HO_22; have HO_16 := n0_; have HB := n1_; have HO268 := n2_; clear n0_ n1_ n2_; clear ho hb hg hat)); try go_wp2_with (first | (go_at_call 9; (with_reducible refine (table_Held.calls _ _ t255 t258 x23_2 t264 t265 _ ?side1 ?side2 A27.out).mono ?_); (case side1 => repeat (first | exact (Kd.R_reads' HO_16.out).2.2 | (with_reducible refine Kd.C_alloc ?_ _) | (with_reducible refine Kd.C_drewN ?_ _) | (with_reducible refine Kd.C_drew ?_))); (case side2 => exact (Kd.R_reads' HO_16.out).2.1); rintro e w30 ⟨rfl, hb⟩; have n0_ := Aside0.mk (Kd.R_below (by (with_reducible repeat (first | apply Kd.R_alloc | apply Kd.R_drewN | apply Kd.R_drew)); exact HO_16.out) hb); have n1_ := Aside0.mk (Kd.R_below (by (with_reducible repeat (first | apply Kd.R_alloc | apply Kd.R_drewN | apply Kd.R_drew)); exact HO_22.out) hb); have n2_ := Aside0.mk (below_step (by repeat (first | (with_reducible first | exact HB.out | apply below_alloc | apply pw_below_drewN | apply below_drew1) | exact HB.out)) hb); clear HO_16; clear HO_22; clear HB; have HO_16 := n0_; have HO_22 := n1_; have HB := n2_; clear n0_ n1_ n2_; (try clear hb); (try clear hb2); (try clear hk); (try clear hi)) | ((with_reducible refine gate_builtin (b := .append) (xs := #[.tmp 92, .tmp 94]) rfl ?_); (try (refine gate_guard (by rfl) ?_; dsimp only)); at_builtin; refine Kd.R_append (Kd.int .i64) (w0 := w) w.heap.size rfl (.tmp 92) (.tmp 94) 23 3 (.int .i64 0) 8 rfl Try.underlying23 info3 rfl (by decide) (by omega) u22 x22_2 t264 [.int .i64 t264] (fun _ => True) (fun _ => False) rfl rfl ?aP (fun _ hk => hk.elim) ?aF ?aO ?aB ?aS ?aL ?_; (case aP => exact rfl); (case aB => exact (by repeat (first | (with_reducible first | exact HB.out | apply below_alloc | apply pw_below_drewN | apply below_drew1) | exact HB.out))); (case aF => exact (fun _ _ => trivial)); (case aO => exact (by (with_reducible repeat (first | apply Kd.R_alloc | apply Kd.R_drewN | apply Kd.R_drew)); exact HO_22.out)); (case aS => exact (below_size (by repeat (first | (with_reducible first | exact HB.out | apply below_alloc | apply pw_below_drewN | apply below_drew1) | exact HB.out)))); (case aL => have := LMc29.out; omega); intro v267 w31 ho hb hg hat; rw [← Ny266.out] at ho; have n0_ := Aside0.mk (Kd.R_over' (by (with_reducible repeat (first | apply Kd.R_alloc | apply Kd.R_drewN | apply Kd.R_drew)); exact HO_16.out) (Kd.R_typed (by (with_reducible repeat (first | apply Kd.R_alloc | apply Kd.R_drewN | apply Kd.R_drew)); exact HO_22.out)) (by decide) hg); have n1_ := Aside0.mk (hb); have n2_ := Aside0.mk (ho); clear HO_16; clear HB; clear HO_22; have HO_16 := n0_; have HB := n1_; have HO268 := n2_; clear n0_ n1_ n2_; clear ho hb hg hat)))
           go_roundg k2
           case measure => have := HJ14.out; have := HK2.out; omega
           case rel => exact ⟨(y266), (wrap64 (x23_2 + 1)), (by first | rfl | (simp; done) | (simp [*]; done)), H', ⟨by have := HJ14.out; have := HK2.out; omega⟩, ⟨by (with_reducible repeat (first | apply Kd.R_alloc | apply Kd.R_drewN | apply Kd.R_drew)); exact HO_16.out⟩, ⟨by (with_reducible repeat (first | apply Kd.R_alloc | apply Kd.R_drewN | apply Kd.R_drew)); exact HO268.out⟩, ⟨by repeat (first | (with_reducible first | exact HB.out | apply below_alloc | apply pw_below_drewN | apply below_drew1) | exact HB.out)⟩⟩
          ·rw [if_neg c29] at H
           exact absurd H (by simp)
         ·rw [if_neg c28] at H
          exact absurd H (by simp)
        ·rw [if_neg c26] at H
         have c26b0 : decide (x23_2 ≤ t262) = false := decide_eq_false c26
         clear c26
         replace H := Option.bind_eq_some_iff.mp H
         obtain ⟨t269, A320, H⟩ := H
         replace H : ((dialtonelaw24_pick.f a6 8).bind fun t272 => ((route_Path.f k2 x22_2 t269 (wrap64 (t262 - t261)) t272).bind fun bt273 => (if bt273.2.2 = 0 then (if (bt273.1.length : Int) = 0 then (none) else (if 0 ≤ (wrap64 ((bt273.1.length : Int) - 1)) then (if (wrap64 ((bt273.1.length : Int) - 1)) < (bt273.1.length : Int) then (if ((rd_T39 bt273.1 (wrap64 ((bt273.1.length : Int) - 1))).f1) < t261 then (dialtonelaw24_RouteTables.j2 k2 t255 t258 t261 t262 x22_2 bt273.2.1 true ((rd_T39 bt273.1 (wrap64 ((bt273.1.length : Int) - 1))).f0) ((rd_T39 bt273.1 (wrap64 ((bt273.1.length : Int) - 1))).f1)) else (dialtonelaw24_RouteTables.j2 k2 t255 t258 t261 t262 x22_2 bt273.2.1 (decide (((rd_T39 bt273.1 (wrap64 ((bt273.1.length : Int) - 1))).f1) > t262)) ((rd_T39 bt273.1 (wrap64 ((bt273.1.length : Int) - 1))).f0) ((rd_T39 bt273.1 (wrap64 ((bt273.1.length : Int) - 1))).f1))) else (none)) else (none))) else (if bt273.2.2 = 240 then (if 0 ≤ t272 then (if t272 < (t269.length : Int) then (some ((rd t269 t272) == (-1))) else (none)) else (none)) else (none))))) = some r := H
         have A32 := Aside0.mk A320
         clear A320
         replace H := Option.bind_eq_some_iff.mp H
         obtain ⟨t272, A330, H⟩ := H
         replace H : ((route_Path.f k2 x22_2 t269 (wrap64 (t262 - t261)) t272).bind fun bt273 => (if bt273.2.2 = 0 then (if (bt273.1.length : Int) = 0 then (none) else (if 0 ≤ (wrap64 ((bt273.1.length : Int) - 1)) then (if (wrap64 ((bt273.1.length : Int) - 1)) < (bt273.1.length : Int) then (if ((rd_T39 bt273.1 (wrap64 ((bt273.1.length : Int) - 1))).f1) < t261 then (dialtonelaw24_RouteTables.j2 k2 t255 t258 t261 t262 x22_2 bt273.2.1 true ((rd_T39 bt273.1 (wrap64 ((bt273.1.length : Int) - 1))).f0) ((rd_T39 bt273.1 (wrap64 ((bt273.1.length : Int) - 1))).f1)) else (dialtonelaw24_RouteTables.j2 k2 t255 t258 t261 t262 x22_2 bt273.2.1 (decide (((rd_T39 bt273.1 (wrap64 ((bt273.1.length : Int) - 1))).f1) > t262)) ((rd_T39 bt273.1 (wrap64 ((bt273.1.length : Int) - 1))).f0) ((rd_T39 bt273.1 (wrap64 ((bt273.1.length : Int) - 1))).f1))) else (none)) else (none))) else (if bt273.2.2 = 240 then (if 0 ≤ t272 then (if t272 < (t269.length : Int) then (some ((rd t269 t272) == (-1))) else (none)) else (none)) else (none)))) = some r := H
         have A33 := Aside0.mk A330
         clear A330
         replace H := Option.bind_eq_some_iff.mp H
         obtain ⟨⟨t273, t274, t275⟩, A340, H⟩ := H
         replace H : (if t275 = 0 then (if (t273.length : Int) = 0 then (none) else (if 0 ≤ (wrap64 ((t273.length : Int) - 1)) then (if (wrap64 ((t273.length : Int) - 1)) < (t273.length : Int) then (if ((rd_T39 t273 (wrap64 ((t273.length : Int) - 1))).f1) < t261 then (dialtonelaw24_RouteTables.j2 k2 t255 t258 t261 t262 x22_2 t274 true ((rd_T39 t273 (wrap64 ((t273.length : Int) - 1))).f0) ((rd_T39 t273 (wrap64 ((t273.length : Int) - 1))).f1)) else (dialtonelaw24_RouteTables.j2 k2 t255 t258 t261 t262 x22_2 t274 (decide (((rd_T39 t273 (wrap64 ((t273.length : Int) - 1))).f1) > t262)) ((rd_T39 t273 (wrap64 ((t273.length : Int) - 1))).f0) ((rd_T39 t273 (wrap64 ((t273.length : Int) - 1))).f1))) else (none)) else (none))) else (if t275 = 240 then (if 0 ≤ t272 then (if t272 < (t269.length : Int) then (some ((rd t269 t272) == (-1))) else (none)) else (none)) else (none))) = some r := H
         have A34 := Aside0.mk A340
         clear A340
         by_cases c35 : t275 = 0
         ·rw [if_pos c35] at H
          have c35b0 : (t275 == 0) = true := beq_iff_eq.mpr c35
          have c35b1 : (t275 != 0) = false := bne_eq_false_iff_eq.mpr c35
          clear c35
          by_cases c36 : (t273.length : Int) = 0
          ·rw [if_pos c36] at H
           exact absurd H (by simp)
          ·rw [if_neg c36] at H
           have c36b0 : ((t273.length : Int) == 0) = false := beq_eq_false_iff_ne.mpr c36
           have c36b1 : ((t273.length : Int) != 0) = true := bne_iff_ne.mpr c36
           have c36b2 : ¬ (t273 = []) := fun h_ => c36 (by rw [h_]; rfl)
           obtain ⟨ji37, hji37⟩ : ∃ j_ : Int, (wrap64 ((t273.length : Int) - 1)) = j_ := ⟨_, rfl⟩
           replace H : (if 0 ≤ (ji37) then (if (ji37) < (t273.length : Int) then (if ((rd_T39 t273 (ji37)).f1) < t261 then (dialtonelaw24_RouteTables.j2 k2 t255 t258 t261 t262 x22_2 t274 true ((rd_T39 t273 (ji37)).f0) ((rd_T39 t273 (ji37)).f1)) else (dialtonelaw24_RouteTables.j2 k2 t255 t258 t261 t262 x22_2 t274 (decide (((rd_T39 t273 (ji37)).f1) > t262)) ((rd_T39 t273 (ji37)).f0) ((rd_T39 t273 (ji37)).f1))) else (none)) else (none)) = some r := by first | (rw [hji37] at H; exact H) | (simp only [hji37] at H ⊢; exact H)
           (try rw [hji37] at A32)
           (try rw [hji37] at A33)
           (try rw [hji37] at A34)
           have hji37w : (IntKind.i64.wrap ((t273.length : Int) - 1)) = ji37 := (i64_w _).trans hji37
           by_cases c38 : 0 ≤ (ji37)
           ·rw [if_pos c38] at H
            have c38b0 : decide (0 ≤ (ji37)) = true := decide_eq_true c38
            clear c38
            by_cases c39 : (ji37) < (t273.length : Int)
            ·rw [if_pos c39] at H
             have c39b0 : decide ((ji37) < (t273.length : Int)) = true := decide_eq_true c39
             clear c39
             have HC40 := Aside0.mk H
             clear H
             obtain ⟨Ao41, co41, eo41⟩ := Kd.R_slice HO_22.out
             subst eo41
             go_upto_region 28 with (first | (go_at_call 10; (with_reducible refine (dialtoneref24_Known.calls k2 _ _ x22_2 (wrap64 (t262 - t261)) _ _ l5 t269 _ ?side1 ?side2 ?side3 ?side4 A32.out).mono ?_); (case side1 => repeat (first | exact (Kd.R_reads' HO_22.out).2.2 | (with_reducible refine Kd.C_alloc ?_ _) | (with_reducible refine Kd.C_drewN ?_ _) | (with_reducible refine Kd.C_drew ?_))); (case side2 => exact (Kd.R_reads' HO_22.out).2.1); (case side3 => repeat (first | exact (Kd.C_below HR5.out HB.out) | (with_reducible refine Kd.C_alloc ?_ _) | (with_reducible refine Kd.C_drewN ?_ _) | (with_reducible refine Kd.C_drew ?_))); (case side4 => exact HC5.out); rintro e w42 ⟨v270, rfl, ho0, hb⟩; have n0_ := Aside0.mk (Kd.R_below (by (with_reducible repeat (first | apply Kd.R_alloc | apply Kd.R_drewN | apply Kd.R_drew)); exact HO_16.out) hb); have n1_ := Aside0.mk (Kd.R_elder' (by (with_reducible repeat (first | apply Kd.R_alloc | apply Kd.R_drewN | apply Kd.R_drew)); exact HO_22.out) (Kd.R_base ho0) hb); have n2_ := Aside0.mk (Kd.R_lower (Kd.R_new' ho0 (Kd.R_lt (by (with_reducible repeat (first | apply Kd.R_alloc | apply Kd.R_drewN | apply Kd.R_drew)); exact HO_22.out))) (below_size (by repeat (first | (with_reducible first | exact HB.out | apply below_alloc | apply pw_below_drewN | apply below_drew1) | exact HB.out)))); have n3_ := Aside0.mk (below_step (by repeat (first | (with_reducible first | exact HB.out | apply below_alloc | apply pw_below_drewN | apply below_drew1) | exact HB.out)) hb); clear HO_16; clear HO_22; clear HB; have HO_16 := n0_; have HO_22 := n1_; have HO271 := n2_; have HB := n3_; clear n0_ n1_ n2_ n3_; (try clear hb); (try clear hb2); (try clear hk); (try clear hi); (try clear ho0)) | (go_at_call 7; (with_reducible refine (dialtonelaw24_pick.calls a6 8 t272 _ A33.out).mono ?_); rintro e w' ⟨rfl, ⟨nd, rfl⟩⟩; (try first | exact ⟨rfl, _, World.drewN_drewN _ _ _⟩ | exact ⟨rfl, _, Eq.trans (World.drewN_drewN _ _ _) (congrArg (World.drewN _) (Nat.add_assoc _ _ _))⟩); obtain ⟨Ao43, co43, eo43⟩ := Kd.R_slice HO271.out; subst eo43) | (go_at_call 11; (with_reducible refine (route_Path.calls k2 _ _ x22_2 _ _ t269 (wrap64 (t262 - t261)) t272 t273 t274 t275 _ ?side1 ?side2 ?side3 ?side4 A34.out).mono ?_); (case side1 => repeat (first | exact (Kd.R_reads' HO_22.out).2.2 | (with_reducible refine Kd.C_alloc ?_ _) | (with_reducible refine Kd.C_drewN ?_ _) | (with_reducible refine Kd.C_drew ?_))); (case side2 => exact (Kd.R_reads' HO_22.out).2.1); (case side3 => repeat (first | exact (Kd.R_reads' HO271.out).2.2 | (with_reducible refine Kd.C_alloc ?_ _) | (with_reducible refine Kd.C_drewN ?_ _) | (with_reducible refine Kd.C_drew ?_))); (case side4 => exact (Kd.R_reads' HO271.out).2.1); rintro e w44 ⟨v276, rfl, ho0, hb⟩; have n0_ := Aside0.mk (Kd.R_below (by (with_reducible repeat (first | apply Kd.R_alloc | apply Kd.R_drewN | apply Kd.R_drew)); exact HO_16.out) hb); have n1_ := Aside0.mk (Kd.R_below (by (with_reducible repeat (first | apply Kd.R_alloc | apply Kd.R_drewN | apply Kd.R_drew)); exact HO_22.out) hb); have n2_ := Aside0.mk (Kd.R_below (by (with_reducible repeat (first | apply Kd.R_alloc | apply Kd.R_drewN | apply Kd.R_drew)); exact HO271.out) hb); have n3_ := Aside0.mk (Kd.R_lower ho0 (below_size (by repeat (first | (with_reducible first | exact HB.out | apply below_alloc | apply pw_below_drewN | apply below_drew1) | exact HB.out)))); have n4_ := Aside0.mk (below_step (by repeat (first | (with_reducible first | exact HB.out | apply below_alloc | apply pw_below_drewN | apply below_drew1) | exact HB.out)) hb); clear HO_16; clear HO_22; clear HO271; clear HB; have HO_16 := n0_; have HO_22 := n1_; have HO271 := n2_; have HO277 := n3_; have HB := n4_; clear n0_ n1_ n2_ n3_ n4_; (try clear hb); (try clear hb2); (try clear hk); (try clear hi); (try clear ho0); obtain ⟨Ao45, co45, eo45⟩ := Kd.R_slice HO277.out; subst eo45; have p279 : 0 ≤ ((ji37) : Int) := of_decide_eq_true (by first | (with_reducible assumption) | assumption); have q279 : (ji37) < (t273.length : Int) := of_decide_eq_true (by first | (with_reducible assumption) | assumption); obtain ⟨ad279, e279, hx279_0, hx279_1⟩ := at_T39 (Kd.R_reads' HO277.out).2.2 (ji37) p279 q279; cases e279; replace p279 := eq_true p279; replace q279 := eq_true q279) | ((with_reducible refine gate_dst (N := 31) rfl ?_); (try (refine gate_guard (by rfl) ?_; dsimp only)); refine box_event ?hg (N := 31) ?hd (cs := #[.int .i64 0, .int .i64 0]) (t := 39) ?hr ?_; (case hd => rfl); (case hg => rfl); (case hr => first | (go_simp; done) | (go_simp; rfl)); intro gb280 hg w46 hbox hb; have n0_ := Aside0.mk (Kd.R_below (by (with_reducible repeat (first | apply Kd.R_alloc | apply Kd.R_drewN | apply Kd.R_drew)); exact HO_16.out) hb); have n1_ := Aside0.mk (Kd.R_below (by (with_reducible repeat (first | apply Kd.R_alloc | apply Kd.R_drewN | apply Kd.R_drew)); exact HO_22.out) hb); have n2_ := Aside0.mk (Kd.R_below (by (with_reducible repeat (first | apply Kd.R_alloc | apply Kd.R_drewN | apply Kd.R_drew)); exact HO271.out) hb); have n3_ := Aside0.mk (Kd.R_below (Kd.R_elderB (by (with_reducible repeat (first | apply Kd.R_alloc | apply Kd.R_drewN | apply Kd.R_drew)); exact HO277.out) gb280 (Nat.le_of_eq hg.symm)) hb); have n4_ := Aside0.mk (below_step (by repeat (first | (with_reducible first | exact HB.out | apply below_alloc | apply pw_below_drewN | apply below_drew1) | exact HB.out)) hb); have n5_ := Aside0.mk (hbox); have n6_ := Aside0.mk ((by rw [hg]; exact (below_size (by repeat (first | (with_reducible first | exact HB.out | apply below_alloc | apply pw_below_drewN | apply below_drew1) | exact HB.out))) : w.heap.size ≤ gb280)); have n7_ := Aside0.mk ((by rw [hg]; exact (below_size (by repeat (first | (with_reducible first | exact HB.out | apply below_alloc | apply pw_below_drewN | apply below_drew1) | exact HB.out))) : w.heap.size ≤ gb280)); clear HO_16; clear HO_22; clear HO271; clear HO277; clear HB; have HO_16 := n0_; have HO_22 := n1_; have HO271 := n2_; have HO277 := n3_; have HB := n4_; have BK280 := n5_; have GW280 := n6_; have GE280 := n7_; clear n0_ n1_ n2_ n3_ n4_ n5_ n6_ n7_; clear hb hbox hg; have hcz47_0 : w46.cell? ⟨gb280, 0, none⟩ = some (.int .i64 0) := (blk_cell BK280.out 0).trans rfl; have hcz47_1 : w46.cell? ⟨gb280, 1, none⟩ = some (.int .i64 0) := (blk_cell BK280.out 1).trans rfl; have hfz47_0 := blk_frozen BK280.out 0; have hfz47_1 := blk_frozen BK280.out 1))
             repeat (go_quiet (first | (go_at_call 10; (with_reducible refine (dialtoneref24_Known.calls k2 _ _ x22_2 (wrap64 (t262 - t261)) _ _ l5 t269 _ ?side1 ?side2 ?side3 ?side4 A32.out).mono ?_); (case side1 => repeat (first | exact (Kd.R_reads' HO_22.out).2.2 | (with_reducible refine Kd.C_alloc ?_ _) | (with_reducible refine Kd.C_drewN ?_ _) | (with_reducible refine Kd.C_drew ?_))); (case side2 => exact (Kd.R_reads' HO_22.out).2.1); (case side3 => repeat (first | exact (Kd.C_below HR5.out HB.out) | (with_reducible refine Kd.C_alloc ?_ _) | (with_reducible refine Kd.C_drewN ?_ _) | (with_reducible refine Kd.C_drew ?_))); (case side4 => exact HC5.out); rintro e w42 ⟨v270, rfl, ho0, hb⟩; have n0_ := Aside0.mk (Kd.R_below (by (with_reducible repeat (first | apply Kd.R_alloc | apply Kd.R_drewN | apply Kd.R_drew)); exact HO_16.out) hb); have n1_ := Aside0.mk (Kd.R_elder' (by (with_reducible repeat (first | apply Kd.R_alloc | apply Kd.R_drewN | apply Kd.R_drew)); exact HO_22.out) (Kd.R_base ho0) hb); have n2_ := Aside0.mk (Kd.R_lower (Kd.R_new' ho0 (Kd.R_lt (by (with_reducible repeat (first | apply Kd.R_alloc | apply Kd.R_drewN | apply Kd.R_drew)); exact HO_22.out))) (below_size (by repeat (first | (with_reducible first | exact HB.out | apply below_alloc | apply pw_below_drewN | apply below_drew1) | exact HB.out)))); have n3_ := Aside0.mk (below_step (by repeat (first | (with_reducible first | exact HB.out | apply below_alloc | apply pw_below_drewN | apply below_drew1) | exact HB.out)) hb); clear HO_16; clear HO_22; clear HB; have HO_16 := n0_; have HO_22 := n1_; have HO271 := n2_; have HB := n3_; clear n0_ n1_ n2_ n3_; (try clear hb); (try clear hb2); (try clear hk); (try clear hi); (try clear ho0)) | (go_at_call 7; (with_reducible refine (dialtonelaw24_pick.calls a6 8 t272 _ A33.out).mono ?_); rintro e w' ⟨rfl, ⟨nd, rfl⟩⟩; (try first | exact ⟨rfl, _, World.drewN_drewN _ _ _⟩ | exact ⟨rfl, _, Eq.trans (World.drewN_drewN _ _ _) (congrArg (World.drewN _) (Nat.add_assoc _ _ _))⟩); obtain ⟨Ao43, co43, eo43⟩ := Kd.R_slice HO271.out; subst eo43) | (go_at_call 11; (with_reducible refine (route_Path.calls k2 _ _ x22_2 _ _ t269 (wrap64 (t262 - t261)) t272 t273 t274 t275 _ ?side1 ?side2 ?side3 ?side4 A34.out).mono ?_); (case side1 => repeat (first | exact (Kd.R_reads' HO_22.out).2.2 | (with_reducible refine Kd.C_alloc ?_ _) | (with_reducible refine Kd.C_drewN ?_ _) | (with_reducible refine Kd.C_drew ?_))); (case side2 => exact (Kd.R_reads' HO_22.out).2.1); (case side3 => repeat (first | exact (Kd.R_reads' HO271.out).2.2 | (with_reducible refine Kd.C_alloc ?_ _) | (with_reducible refine Kd.C_drewN ?_ _) | (with_reducible refine Kd.C_drew ?_))); (case side4 => exact (Kd.R_reads' HO271.out).2.1); rintro e w44 ⟨v276, rfl, ho0, hb⟩; have n0_ := Aside0.mk (Kd.R_below (by (with_reducible repeat (first | apply Kd.R_alloc | apply Kd.R_drewN | apply Kd.R_drew)); exact HO_16.out) hb); have n1_ := Aside0.mk (Kd.R_below (by (with_reducible repeat (first | apply Kd.R_alloc | apply Kd.R_drewN | apply Kd.R_drew)); exact HO_22.out) hb); have n2_ := Aside0.mk (Kd.R_below (by (with_reducible repeat (first | apply Kd.R_alloc | apply Kd.R_drewN | apply Kd.R_drew)); exact HO271.out) hb); have n3_ := Aside0.mk (Kd.R_lower ho0 (below_size (by repeat (first | (with_reducible first | exact HB.out | apply below_alloc | apply pw_below_drewN | apply below_drew1) | exact HB.out)))); have n4_ := Aside0.mk (below_step (by repeat (first | (with_reducible first | exact HB.out | apply below_alloc | apply pw_below_drewN | apply below_drew1) | exact HB.out)) hb); clear HO_16; clear HO_22; clear HO271; clear HB; have HO_16 := n0_; have HO_22 := n1_; have HO271 := n2_; have HO277 := n3_; have HB := n4_; clear n0_ n1_ n2_ n3_ n4_; (try clear hb); (try clear hb2); (try clear hk); (try clear hi); (try clear ho0); obtain ⟨Ao45, co45, eo45⟩ := Kd.R_slice HO277.out; subst eo45; have p279 : 0 ≤ ((ji37) : Int) := of_decide_eq_true (by first | (with_reducible assumption) | assumption); have q279 : (ji37) < (t273.length : Int) := of_decide_eq_true (by first | (with_reducible assumption) | assumption); obtain ⟨ad279, e279, hx279_0, hx279_1⟩ := at_T39 (Kd.R_reads' HO277.out).2.2 (ji37) p279 q279; cases e279; replace p279 := eq_true p279; replace q279 := eq_true q279) | ((with_reducible refine gate_dst (N := 31) rfl ?_); (try (refine gate_guard (by rfl) ?_; dsimp only)); refine box_event ?hg (N := 31) ?hd (cs := #[.int .i64 0, .int .i64 0]) (t := 39) ?hr ?_; (case hd => rfl); (case hg => rfl); (case hr => first | (go_simp; done) | (go_simp; rfl)); intro gb280 hg w46 hbox hb; have n0_ := Aside0.mk (Kd.R_below (by (with_reducible repeat (first | apply Kd.R_alloc | apply Kd.R_drewN | apply Kd.R_drew)); exact HO_16.out) hb); have n1_ := Aside0.mk (Kd.R_below (by (with_reducible repeat (first | apply Kd.R_alloc | apply Kd.R_drewN | apply Kd.R_drew)); exact HO_22.out) hb); have n2_ := Aside0.mk (Kd.R_below (by (with_reducible repeat (first | apply Kd.R_alloc | apply Kd.R_drewN | apply Kd.R_drew)); exact HO271.out) hb); have n3_ := Aside0.mk (Kd.R_below (Kd.R_elderB (by (with_reducible repeat (first | apply Kd.R_alloc | apply Kd.R_drewN | apply Kd.R_drew)); exact HO277.out) gb280 (Nat.le_of_eq hg.symm)) hb); have n4_ := Aside0.mk (below_step (by repeat (first | (with_reducible first | exact HB.out | apply below_alloc | apply pw_below_drewN | apply below_drew1) | exact HB.out)) hb); have n5_ := Aside0.mk (hbox); have n6_ := Aside0.mk ((by rw [hg]; exact (below_size (by repeat (first | (with_reducible first | exact HB.out | apply below_alloc | apply pw_below_drewN | apply below_drew1) | exact HB.out))) : w.heap.size ≤ gb280)); have n7_ := Aside0.mk ((by rw [hg]; exact (below_size (by repeat (first | (with_reducible first | exact HB.out | apply below_alloc | apply pw_below_drewN | apply below_drew1) | exact HB.out))) : w.heap.size ≤ gb280)); clear HO_16; clear HO_22; clear HO271; clear HO277; clear HB; have HO_16 := n0_; have HO_22 := n1_; have HO271 := n2_; have HO277 := n3_; have HB := n4_; have BK280 := n5_; have GW280 := n6_; have GE280 := n7_; clear n0_ n1_ n2_ n3_ n4_ n5_ n6_ n7_; clear hb hbox hg; have hcz47_0 : w46.cell? ⟨gb280, 0, none⟩ = some (.int .i64 0) := (blk_cell BK280.out 0).trans rfl; have hcz47_1 : w46.cell? ⟨gb280, 1, none⟩ = some (.int .i64 0) := (blk_cell BK280.out 1).trans rfl; have hfz47_0 := blk_frozen BK280.out 0; have hfz47_1 := blk_frozen BK280.out 1)); go_upto_region 28 with (first | (go_at_call 10; (with_reducible refine (dialtoneref24_Known.calls k2 _ _ x22_2 (wrap64 (t262 - t261)) _ _ l5 t269 _ ?side1 ?side2 ?side3 ?side4 A32.out).mono ?_); (case side1 => repeat (first | exact (Kd.R_reads' HO_22.out).2.2 | (with_reducible refine Kd.C_alloc ?_ _) | (with_reducible refine Kd.C_drewN ?_ _) | (with_reducible refine Kd.C_drew ?_))); (case side2 => exact (Kd.R_reads' HO_22.out).2.1); (case side3 => repeat (first | exact (Kd.C_below HR5.out HB.out) | (with_reducible refine Kd.C_alloc ?_ _) | (with_reducible refine Kd.C_drewN ?_ _) | (with_reducible refine Kd.C_drew ?_))); (case side4 => exact HC5.out); rintro e w42 ⟨v270, rfl, ho0, hb⟩; have n0_ := Aside0.mk (Kd.R_below (by (with_reducible repeat (first | apply Kd.R_alloc | apply Kd.R_drewN | apply Kd.R_drew)); exact HO_16.out) hb); have n1_ := Aside0.mk (Kd.R_elder' (by (with_reducible repeat (first | apply Kd.R_alloc | apply Kd.R_drewN | apply Kd.R_drew)); exact HO_22.out) (Kd.R_base ho0) hb); have n2_ := Aside0.mk (Kd.R_lower (Kd.R_new' ho0 (Kd.R_lt (by (with_reducible repeat (first | apply Kd.R_alloc | apply Kd.R_drewN | apply Kd.R_drew)); exact HO_22.out))) (below_size (by repeat (first | (with_reducible first | exact HB.out | apply below_alloc | apply pw_below_drewN | apply below_drew1) | exact HB.out)))); have n3_ := Aside0.mk (below_step (by repeat (first | (with_reducible first | exact HB.out | apply below_alloc | apply pw_below_drewN | apply below_drew1) | exact HB.out)) hb); clear HO_16; clear HO_22; clear HB; have HO_16 := n0_; have HO_22 := n1_; have HO271 := n2_; have HB := n3_; clear n0_ n1_ n2_ n3_; (try clear hb); (try clear hb2); (try clear hk); (try clear hi); (try clear ho0)) | (go_at_call 7; (with_reducible refine (dialtonelaw24_pick.calls a6 8 t272 _ A33.out).mono ?_); rintro e w' ⟨rfl, ⟨nd, rfl⟩⟩; (try first | exact ⟨rfl, _, World.drewN_drewN _ _ _⟩ | exact ⟨rfl, _, Eq.trans (World.drewN_drewN _ _ _) (congrArg (World.drewN _) (Nat.add_assoc _ _ _))⟩); obtain ⟨Ao43, co43, eo43⟩ := Kd.R_slice HO271.out; subst eo43) | (go_at_call 11; (with_reducible refine (route_Path.calls k2 _ _ x22_2 _ _ t269 (wrap64 (t262 - t261)) t272 t273 t274 t275 _ ?side1 ?side2 ?side3 ?side4 A34.out).mono ?_); (case side1 => repeat (first | exact (Kd.R_reads' HO_22.out).2.2 | (with_reducible refine Kd.C_alloc ?_ _) | (with_reducible refine Kd.C_drewN ?_ _) | (with_reducible refine Kd.C_drew ?_))); (case side2 => exact (Kd.R_reads' HO_22.out).2.1); (case side3 => repeat (first | exact (Kd.R_reads' HO271.out).2.2 | (with_reducible refine Kd.C_alloc ?_ _) | (with_reducible refine Kd.C_drewN ?_ _) | (with_reducible refine Kd.C_drew ?_))); (case side4 => exact (Kd.R_reads' HO271.out).2.1); rintro e w44 ⟨v276, rfl, ho0, hb⟩; have n0_ := Aside0.mk (Kd.R_below (by (with_reducible repeat (first | apply Kd.R_alloc | apply Kd.R_drewN | apply Kd.R_drew)); exact HO_16.out) hb); have n1_ := Aside0.mk (Kd.R_below (by (with_reducible repeat (first | apply Kd.R_alloc | apply Kd.R_drewN | apply Kd.R_drew)); exact HO_22.out) hb); have n2_ := Aside0.mk (Kd.R_below (by (with_reducible repeat (first | apply Kd.R_alloc | apply Kd.R_drewN | apply Kd.R_drew)); exact HO271.out) hb); have n3_ := Aside0.mk (Kd.R_lower ho0 (below_size (by repeat (first | (with_reducible first | exact HB.out | apply below_alloc | apply pw_below_drewN | apply below_drew1) | exact HB.out)))); have n4_ := Aside0.mk (below_step (by repeat (first | (with_reducible first | exact HB.out | apply below_alloc | apply pw_below_drewN | apply below_drew1) | exact HB.out)) hb); clear HO_16; clear HO_22; clear HO271; clear HB; have HO_16 := n0_; have HO_22 := n1_; have HO271 := n2_; have HO277 := n3_; have HB := n4_; clear n0_ n1_ n2_ n3_ n4_; (try clear hb); (try clear hb2); (try clear hk); (try clear hi); (try clear ho0); obtain ⟨Ao45, co45, eo45⟩ := Kd.R_slice HO277.out; subst eo45; have p279 : 0 ≤ ((ji37) : Int) := of_decide_eq_true (by first | (with_reducible assumption) | assumption); have q279 : (ji37) < (t273.length : Int) := of_decide_eq_true (by first | (with_reducible assumption) | assumption); obtain ⟨ad279, e279, hx279_0, hx279_1⟩ := at_T39 (Kd.R_reads' HO277.out).2.2 (ji37) p279 q279; cases e279; replace p279 := eq_true p279; replace q279 := eq_true q279) | ((with_reducible refine gate_dst (N := 31) rfl ?_); (try (refine gate_guard (by rfl) ?_; dsimp only)); refine box_event ?hg (N := 31) ?hd (cs := #[.int .i64 0, .int .i64 0]) (t := 39) ?hr ?_; (case hd => rfl); (case hg => rfl); (case hr => first | (go_simp; done) | (go_simp; rfl)); intro gb280 hg w46 hbox hb; have n0_ := Aside0.mk (Kd.R_below (by (with_reducible repeat (first | apply Kd.R_alloc | apply Kd.R_drewN | apply Kd.R_drew)); exact HO_16.out) hb); have n1_ := Aside0.mk (Kd.R_below (by (with_reducible repeat (first | apply Kd.R_alloc | apply Kd.R_drewN | apply Kd.R_drew)); exact HO_22.out) hb); have n2_ := Aside0.mk (Kd.R_below (by (with_reducible repeat (first | apply Kd.R_alloc | apply Kd.R_drewN | apply Kd.R_drew)); exact HO271.out) hb); have n3_ := Aside0.mk (Kd.R_below (Kd.R_elderB (by (with_reducible repeat (first | apply Kd.R_alloc | apply Kd.R_drewN | apply Kd.R_drew)); exact HO277.out) gb280 (Nat.le_of_eq hg.symm)) hb); have n4_ := Aside0.mk (below_step (by repeat (first | (with_reducible first | exact HB.out | apply below_alloc | apply pw_below_drewN | apply below_drew1) | exact HB.out)) hb); have n5_ := Aside0.mk (hbox); have n6_ := Aside0.mk ((by rw [hg]; exact (below_size (by repeat (first | (with_reducible first | exact HB.out | apply below_alloc | apply pw_below_drewN | apply below_drew1) | exact HB.out))) : w.heap.size ≤ gb280)); have n7_ := Aside0.mk ((by rw [hg]; exact (below_size (by repeat (first | (with_reducible first | exact HB.out | apply below_alloc | apply pw_below_drewN | apply below_drew1) | exact HB.out))) : w.heap.size ≤ gb280)); clear HO_16; clear HO_22; clear HO271; clear HO277; clear HB; have HO_16 := n0_; have HO_22 := n1_; have HO271 := n2_; have HO277 := n3_; have HB := n4_; have BK280 := n5_; have GW280 := n6_; have GE280 := n7_; clear n0_ n1_ n2_ n3_ n4_ n5_ n6_ n7_; clear hb hbox hg; have hcz47_0 : w46.cell? ⟨gb280, 0, none⟩ = some (.int .i64 0) := (blk_cell BK280.out 0).trans rfl; have hcz47_1 : w46.cell? ⟨gb280, 1, none⟩ = some (.int .i64 0) := (blk_cell BK280.out 1).trans rfl; have hfz47_0 := blk_frozen BK280.out 0; have hfz47_1 := blk_frozen BK280.out 1)))
             (try simp only [Act.put, List.setIfInBounds_toArray, List.set_cons_zero, List.set_cons_succ])
             go_cut [144] (fun v144 wc => ∃ (kq : Nat) (x144_39 : Bool), v144 = .bool x144_39 ∧ Aside0 (dialtonelaw24_RouteTables.j2 kq t255 t258 t261 t262 x22_2 t274 x144_39 ((rd_T39 t273 (ji37)).f0) ((rd_T39 t273 (ji37)).f1) = some r) ∧ Aside0 (kq ≤ k2) ∧ Aside0 (Kd.R k58 58 wc w.heap.size (fun _ => True) (.slice Ao18 t255.length co18) t255) ∧ Aside0 (Kd.R (Kd.int .i64) 3 wc w.heap.size (fun _ => True) (.slice Ao41 x22_2.length co41) x22_2) ∧ Aside0 (wc.heap[gb280]? = some (.cells #[.int .i64 ((rd_T39 t273 (ji37)).f0), .int .i64 ((rd_T39 t273 (ji37)).f1)] 39 (0, 0))) ∧ Aside0 (Below w.heap.size w wc))
             case first =>
              have H := HC40.out
              clear HC40
              by_cases c48 : ((rd_T39 t273 (ji37)).f1) < t261
              ·rw [if_pos c48] at H
               have c48b0 : decide (((rd_T39 t273 (ji37)).f1) < t261) = true := decide_eq_true c48
               clear c48
               (first | rw [c48b0] | (simp only [i64_w, i32_w]; rw [c48b0]) | rw [c48b1] | skip)
               have H' := Aside0.mk H
               clear H
               have hcz49_0 : w46.cell? ⟨gb280, 0, none⟩ = some (.int .i64 0) := (blk_cell BK280.out 0).trans rfl
               have hcz49_1 : w46.cell? ⟨gb280, 1, none⟩ = some (.int .i64 0) := (blk_cell BK280.out 1).trans rfl
               have hfz49_0 := blk_frozen BK280.out 0
               have hfz49_1 := blk_frozen BK280.out 1
               go_wp2
               repeat (go_quiet (fail); try go_wp2)
               go_meet
               case rel => exact ⟨_, (true), (by first | rfl | (simp; done) | (simp [*]; done)), H', ⟨by have := HJ14.out; have := HK2.out; first | omega | exact Nat.le_refl _⟩, ⟨by (with_reducible repeat (first | apply Kd.R_alloc | apply Kd.R_drewN | apply Kd.R_drew)); exact Kd.R_mono (Kd.R_far (p := ⟨gb280, 1, none⟩) (Kd.R_far (p := ⟨gb280, 0, none⟩) (Kd.R_types HO_16.out BK280.out (by decide)) (fun _ hk => hk.2) (.int .i64 ((rd_T39 t273 (ji37)).f0))) (fun _ hk => hk.2) (.int .i64 ((rd_T39 t273 (ji37)).f1))) (fun _ hk => trivial)⟩, ⟨by (with_reducible repeat (first | apply Kd.R_alloc | apply Kd.R_drewN | apply Kd.R_drew)); exact Kd.R_mono (Kd.R_far (p := ⟨gb280, 1, none⟩) (Kd.R_far (p := ⟨gb280, 0, none⟩) (Kd.R_types HO_22.out BK280.out (by decide)) (fun _ hk => hk.2) (.int .i64 ((rd_T39 t273 (ji37)).f0))) (fun _ hk => hk.2) (.int .i64 ((rd_T39 t273 (ji37)).f1))) (fun _ hk => trivial)⟩, ⟨by (with_reducible repeat (first | refine blk_drewN ?_ _ | refine blk_drew ?_ | refine blk_alloc ?_ _)); refine blk_put (cs := #[.int .i64 ((rd_T39 t273 (ji37)).f0), .int .i64 0]) ?_ 1 _ rfl; (with_reducible repeat (first | refine blk_drewN ?_ _ | refine blk_drew ?_ | refine blk_alloc ?_ _)); refine blk_put (cs := #[.int .i64 0, .int .i64 0]) ?_ 0 _ rfl; (with_reducible repeat (first | refine blk_drewN ?_ _ | refine blk_drew ?_ | refine blk_alloc ?_ _)); exact BK280.out⟩, ⟨by repeat (first | (with_reducible first | exact HB.out | apply below_alloc | apply pw_below_drewN | apply below_drew1 | refine below_set ?_ GE280.out) | exact HB.out)⟩⟩
              ·rw [if_neg c48] at H
               have c48b0 : decide (((rd_T39 t273 (ji37)).f1) < t261) = false := decide_eq_false c48
               clear c48
               (first | rw [c48b0] | (simp only [i64_w, i32_w]; rw [c48b0]) | rw [c48b1] | skip)
               have H' := Aside0.mk H
               clear H
               have hcz50_0 : w46.cell? ⟨gb280, 0, none⟩ = some (.int .i64 0) := (blk_cell BK280.out 0).trans rfl
               have hcz50_1 : w46.cell? ⟨gb280, 1, none⟩ = some (.int .i64 0) := (blk_cell BK280.out 1).trans rfl
               have hfz50_0 := blk_frozen BK280.out 0
               have hfz50_1 := blk_frozen BK280.out 1
               go_wp2
               repeat (go_quiet (fail); try go_wp2)
               go_meet
               case rel => exact ⟨_, (decide (((rd_T39 t273 (ji37)).f1) > t262)), (by first | rfl | (simp; done) | (simp only [← hji37] <;> (first | rfl | simp)) | (simp [*]; done)), H', ⟨by have := HJ14.out; have := HK2.out; first | omega | exact Nat.le_refl _⟩, ⟨by (with_reducible repeat (first | apply Kd.R_alloc | apply Kd.R_drewN | apply Kd.R_drew)); exact Kd.R_mono (Kd.R_far (p := ⟨gb280, 1, none⟩) (Kd.R_far (p := ⟨gb280, 0, none⟩) (Kd.R_types HO_16.out BK280.out (by decide)) (fun _ hk => hk.2) (.int .i64 ((rd_T39 t273 (ji37)).f0))) (fun _ hk => hk.2) (.int .i64 ((rd_T39 t273 (ji37)).f1))) (fun _ hk => trivial)⟩, ⟨by (with_reducible repeat (first | apply Kd.R_alloc | apply Kd.R_drewN | apply Kd.R_drew)); exact Kd.R_mono (Kd.R_far (p := ⟨gb280, 1, none⟩) (Kd.R_far (p := ⟨gb280, 0, none⟩) (Kd.R_types HO_22.out BK280.out (by decide)) (fun _ hk => hk.2) (.int .i64 ((rd_T39 t273 (ji37)).f0))) (fun _ hk => hk.2) (.int .i64 ((rd_T39 t273 (ji37)).f1))) (fun _ hk => trivial)⟩, ⟨by (with_reducible repeat (first | refine blk_drewN ?_ _ | refine blk_drew ?_ | refine blk_alloc ?_ _)); refine blk_put (cs := #[.int .i64 ((rd_T39 t273 (ji37)).f0), .int .i64 0]) ?_ 1 _ rfl; (with_reducible repeat (first | refine blk_drewN ?_ _ | refine blk_drew ?_ | refine blk_alloc ?_ _)); refine blk_put (cs := #[.int .i64 0, .int .i64 0]) ?_ 0 _ rfl; (with_reducible repeat (first | refine blk_drewN ?_ _ | refine blk_drew ?_ | refine blk_alloc ?_ _)); exact BK280.out⟩, ⟨by repeat (first | (with_reducible first | exact HB.out | apply below_alloc | apply pw_below_drewN | apply below_drew1 | refine below_set ?_ GE280.out) | exact HB.out)⟩⟩
             case rest =>
              clear HC40
              try clear c2
              try clear p2
              try clear q2
              try clear hx2
              try clear c3
              try clear c4
              try clear c5
              try clear p6
              try clear c9
              try clear c21
              try clear c21b0
              try clear c21b1
              try clear c22
              try clear c22b0
              try clear c23
              try clear c23b0
              try clear c24
              try clear c25
              try clear c25b0
              try clear c26
              try clear c26b0
              try clear p27
              try clear q27
              try clear hx27
              try clear c28
              try clear c28b0
              try clear c28b1
              try clear c29
              try clear c35
              try clear c35b0
              try clear c35b1
              try clear c36
              try clear c36b0
              try clear c36b1
              try clear c36b2
              try clear c38
              try clear c38b0
              try clear c39
              try clear c39b0
              try clear c48
              try clear c48b0
              try clear c48b1
              try clear hcz47_0
              try clear hcz47_1
              try clear hcz49_0
              try clear hcz49_1
              try clear hcz50_0
              try clear hcz50_1
              try clear hfz47_0
              try clear hfz47_1
              try clear hfz49_0
              try clear hfz49_1
              try clear hfz50_0
              try clear hfz50_1
              try clear hx279_0
              try clear hx279_1
              try clear p2
              try clear p279
              try clear p6
              try clear q279
              obtain ⟨kq, x144_39, rfl, HA, HJ39, HO_16, HO_22, BK280, HB⟩ := hcut
              cases kq with
              | zero => exact absurd HA.out (by simp [dialtonelaw24_RouteTables.j2])
              | succ kj39 =>
               have H := HA.out
               clear HA
               simp only [dialtonelaw24_RouteTables.j2] at H
               by_cases c51 : x144_39 = true
               ·subst c51
                have H1 : (none) = some r := by rw [if_pos rfl] at H; exact H
                clear H
                have H := H1
                clear H1
                exact absurd H (by simp)
               ·replace c51 := Bool.eq_false_iff.mpr c51
                subst c51
                have H1 : ((table_Between.f t255 t258 t261 t262).bind fun bt281 => (dialtonelaw24_RouteTables.l1 kj39 x22_2 t274 bt281.1 bt281.2 false 0 ((rd_T39 t273 (ji37)).f0) ((rd_T39 t273 (ji37)).f1))) = some r := by rw [if_neg (show ¬ (false = true) by decide)] at H; exact H
                clear H
                have H := H1
                clear H1
                replace H := Option.bind_eq_some_iff.mp H
                obtain ⟨⟨t281, t282⟩, A520, H⟩ := H
                replace H : (dialtonelaw24_RouteTables.l1 kj39 x22_2 t274 t281 t282 false 0 ((rd_T39 t273 (ji37)).f0) ((rd_T39 t273 (ji37)).f1)) = some r := H
                have A52 := Aside0.mk A520
                clear A520
                have H' := Aside0.mk H
                clear H
                go_wp2_with (first | (go_at_call 12; (with_reducible refine (table_Between.calls _ _ t255 t258 t261 t262 t281 t282 _ ?side1 ?side2 A52.out).mono ?_); (case side1 => repeat (first | exact (Kd.R_reads' HO_16.out).2.2 | (with_reducible refine Kd.C_alloc ?_ _) | (with_reducible refine Kd.C_drewN ?_ _) | (with_reducible refine Kd.C_drew ?_))); (case side2 => exact (Kd.R_reads' HO_16.out).2.1); rintro e w53 ⟨v283, rfl, ho0, hb⟩; have n0_ := Aside0.mk (Kd.R_below (by (with_reducible repeat (first | apply Kd.R_alloc | apply Kd.R_drewN | apply Kd.R_drew)); exact HO_16.out) hb); have n1_ := Aside0.mk (Kd.R_elder' (by (with_reducible repeat (first | apply Kd.R_alloc | apply Kd.R_drewN | apply Kd.R_drew)); exact HO_22.out) (Kd.R_base ho0) hb); have n2_ := Aside0.mk (Kd.R_lower (Kd.R_new' ho0 (Kd.R_lt (by (with_reducible repeat (first | apply Kd.R_alloc | apply Kd.R_drewN | apply Kd.R_drew)); exact HO_22.out))) (below_size (by repeat (first | (with_reducible first | exact HB.out | apply below_alloc | apply pw_below_drewN | apply below_drew1 | refine below_set ?_ GE280.out) | exact HB.out)))); have n3_ := Aside0.mk (blk_below (g := gb280) (o := .cells #[.int .i64 ((rd_T39 t273 (ji37)).f0), .int .i64 ((rd_T39 t273 (ji37)).f1)] 39 (0, 0)) (by (with_reducible repeat (first | refine blk_drewN ?_ _ | refine blk_drew ?_ | refine blk_alloc ?_ _)); exact BK280.out) hb); have n4_ := Aside0.mk (below_step (by repeat (first | (with_reducible first | exact HB.out | apply below_alloc | apply pw_below_drewN | apply below_drew1 | refine below_set ?_ GE280.out) | exact HB.out)) hb); clear HO_16; clear HO_22; clear BK280; clear HB; have HO_16 := n0_; have HO_22 := n1_; have HO284 := n2_; have BK280 := n3_; have HB := n4_; clear n0_ n1_ n2_ n3_ n4_; (try clear hb); (try clear hb2); (try clear hk); (try clear hi); (try clear ho0)))
                repeat (go_quiet (first | (go_at_call 12; (with_reducible refine (table_Between.calls _ _ t255 t258 t261 t262 t281 t282 _ ?side1 ?side2 A52.out).mono ?_); (case side1 => repeat (first | exact (Kd.R_reads' HO_16.out).2.2 | (with_reducible refine Kd.C_alloc ?_ _) | (with_reducible refine Kd.C_drewN ?_ _) | (with_reducible refine Kd.C_drew ?_))); (case side2 => exact (Kd.R_reads' HO_16.out).2.1); rintro e w53 ⟨v283, rfl, ho0, hb⟩; have n0_ := Aside0.mk (Kd.R_below (by (with_reducible repeat (first | apply Kd.R_alloc | apply Kd.R_drewN | apply Kd.R_drew)); exact HO_16.out) hb); have n1_ := Aside0.mk (Kd.R_elder' (by (with_reducible repeat (first | apply Kd.R_alloc | apply Kd.R_drewN | apply Kd.R_drew)); exact HO_22.out) (Kd.R_base ho0) hb); have n2_ := Aside0.mk (Kd.R_lower (Kd.R_new' ho0 (Kd.R_lt (by (with_reducible repeat (first | apply Kd.R_alloc | apply Kd.R_drewN | apply Kd.R_drew)); exact HO_22.out))) (below_size (by repeat (first | (with_reducible first | exact HB.out | apply below_alloc | apply pw_below_drewN | apply below_drew1 | refine below_set ?_ GE280.out) | exact HB.out)))); have n3_ := Aside0.mk (blk_below (g := gb280) (o := .cells #[.int .i64 ((rd_T39 t273 (ji37)).f0), .int .i64 ((rd_T39 t273 (ji37)).f1)] 39 (0, 0)) (by (with_reducible repeat (first | refine blk_drewN ?_ _ | refine blk_drew ?_ | refine blk_alloc ?_ _)); exact BK280.out) hb); have n4_ := Aside0.mk (below_step (by repeat (first | (with_reducible first | exact HB.out | apply below_alloc | apply pw_below_drewN | apply below_drew1 | refine below_set ?_ GE280.out) | exact HB.out)) hb); clear HO_16; clear HO_22; clear BK280; clear HB; have HO_16 := n0_; have HO_22 := n1_; have HO284 := n2_; have BK280 := n3_; have HB := n4_; clear n0_ n1_ n2_ n3_ n4_; (try clear hb); (try clear hb2); (try clear hk); (try clear hi); (try clear ho0))); try go_wp2_with (first | (go_at_call 12; (with_reducible refine (table_Between.calls _ _ t255 t258 t261 t262 t281 t282 _ ?side1 ?side2 A52.out).mono ?_); (case side1 => repeat (first | exact (Kd.R_reads' HO_16.out).2.2 | (with_reducible refine Kd.C_alloc ?_ _) | (with_reducible refine Kd.C_drewN ?_ _) | (with_reducible refine Kd.C_drew ?_))); (case side2 => exact (Kd.R_reads' HO_16.out).2.1); rintro e w53 ⟨v283, rfl, ho0, hb⟩; have n0_ := Aside0.mk (Kd.R_below (by (with_reducible repeat (first | apply Kd.R_alloc | apply Kd.R_drewN | apply Kd.R_drew)); exact HO_16.out) hb); have n1_ := Aside0.mk (Kd.R_elder' (by (with_reducible repeat (first | apply Kd.R_alloc | apply Kd.R_drewN | apply Kd.R_drew)); exact HO_22.out) (Kd.R_base ho0) hb); have n2_ := Aside0.mk (Kd.R_lower (Kd.R_new' ho0 (Kd.R_lt (by (with_reducible repeat (first | apply Kd.R_alloc | apply Kd.R_drewN | apply Kd.R_drew)); exact HO_22.out))) (below_size (by repeat (first | (with_reducible first | exact HB.out | apply below_alloc | apply pw_below_drewN | apply below_drew1 | refine below_set ?_ GE280.out) | exact HB.out)))); have n3_ := Aside0.mk (blk_below (g := gb280) (o := .cells #[.int .i64 ((rd_T39 t273 (ji37)).f0), .int .i64 ((rd_T39 t273 (ji37)).f1)] 39 (0, 0)) (by (with_reducible repeat (first | refine blk_drewN ?_ _ | refine blk_drew ?_ | refine blk_alloc ?_ _)); exact BK280.out) hb); have n4_ := Aside0.mk (below_step (by repeat (first | (with_reducible first | exact HB.out | apply below_alloc | apply pw_below_drewN | apply below_drew1 | refine below_set ?_ GE280.out) | exact HB.out)) hb); clear HO_16; clear HO_22; clear BK280; clear HB; have HO_16 := n0_; have HO_22 := n1_; have HO284 := n2_; have BK280 := n3_; have HB := n4_; clear n0_ n1_ n2_ n3_ n4_; (try clear hb); (try clear hb2); (try clear hk); (try clear hi); (try clear ho0))))
                go_loopg [34, 35] kj39 (fun kq v34 v35 w' => ∃ (x34_4 : Bool) (x35_4 : Int), v34 = .bool x34_4 ∧ v35 = .int .i64 x35_4 ∧ Aside0 (dialtonelaw24_RouteTables.l1 kq x22_2 t274 t281 t282 x34_4 x35_4 ((rd_T39 t273 (ji37)).f0) ((rd_T39 t273 (ji37)).f1) = some r) ∧ Aside0 (kq ≤ kj39) ∧ Aside0 (Kd.R (Kd.int .i64) 3 w' w.heap.size (fun k_ => some k_ ≠ (v283 : Value).ownBlock) (.slice Ao41 x22_2.length co41) x22_2) ∧ Aside0 (Kd.R (Kd.int .i64) 3 w' w.heap.size (fun k_ => some k_ ≠ ((.slice Ao41 x22_2.length co41) : Value).ownBlock) v283 t281) ∧ Aside0 (w'.heap[gb280]? = some (.cells #[.int .i64 ((rd_T39 t273 (ji37)).f0), .int .i64 ((rd_T39 t273 (ji37)).f1)] 39 (0, 0))) ∧ Aside0 (Below w.heap.size w w'))
                case atStart => exact ⟨(false), (0), (by first | rfl | (simp; done) | (simp [*]; done)), (by first | rfl | (simp; done) | (simp [*]; done)), H', ⟨Nat.le_refl _⟩, ⟨by (with_reducible repeat (first | apply Kd.R_alloc | apply Kd.R_drewN | apply Kd.R_drew)); exact Kd.R_mono HO_22.out (fun _ hk => hk.2)⟩, ⟨by (with_reducible repeat (first | apply Kd.R_alloc | apply Kd.R_drewN | apply Kd.R_drew)); exact Kd.R_mono HO284.out (fun _ hk => hk.2)⟩, ⟨by (with_reducible repeat (first | refine blk_drewN ?_ _ | refine blk_drew ?_ | refine blk_alloc ?_ _)); exact BK280.out⟩, ⟨by repeat (first | (with_reducible first | exact HB.out | apply below_alloc | apply pw_below_drewN | apply below_drew1 | refine below_set ?_ GE280.out) | exact HB.out)⟩⟩
                case round =>
                 clear H'
                 try clear c2
                 try clear p2
                 try clear q2
                 try clear hx2
                 try clear c3
                 try clear c4
                 try clear c5
                 try clear p6
                 try clear c9
                 try clear c21
                 try clear c21b0
                 try clear c21b1
                 try clear c22
                 try clear c22b0
                 try clear c23
                 try clear c23b0
                 try clear c24
                 try clear c25
                 try clear c25b0
                 try clear c26
                 try clear c26b0
                 try clear p27
                 try clear q27
                 try clear hx27
                 try clear c28
                 try clear c28b0
                 try clear c28b1
                 try clear c29
                 try clear c35
                 try clear c35b0
                 try clear c35b1
                 try clear c36
                 try clear c36b0
                 try clear c36b1
                 try clear c36b2
                 try clear c38
                 try clear c38b0
                 try clear c39
                 try clear c39b0
                 try clear c48
                 try clear c48b0
                 try clear c48b1
                 try clear c51
                 try clear hcz47_0
                 try clear hcz47_1
                 try clear hcz49_0
                 try clear hcz49_1
                 try clear hcz50_0
                 try clear hcz50_1
                 try clear hfz47_0
                 try clear hfz47_1
                 try clear hfz49_0
                 try clear hfz49_1
                 try clear hfz50_0
                 try clear hfz50_1
                 try clear hx279_0
                 try clear hx279_1
                 try clear p2
                 try clear p27
                 try clear p279
                 try clear p6
                 try clear q2
                 try clear q27
                 try clear q279
                 obtain ⟨x34_4, x35_4, rfl, rfl, HA, HK4, HO_22, HO_32, BK280, HB⟩ := hrel
                 cases gk with
                 | zero => exact absurd HA.out (by simp [dialtonelaw24_RouteTables.l1])
                 | succ k4 =>
                  have H := HA.out
                  clear HA
                  simp only [dialtonelaw24_RouteTables.l1] at H
                  by_cases c54 : x35_4 < (t281.length : Int)
                  ·rw [if_pos c54] at H
                   have c54b0 : decide (x35_4 < (t281.length : Int)) = true := decide_eq_true c54
                   clear c54
                   by_cases c55 : x34_4 = true
                   ·subst c55
                    have H1 : (dialtonelaw24_RouteTables.l1 k4 x22_2 t274 t281 t282 true (wrap64 (x35_4 + 1)) ((rd_T39 t273 (ji37)).f0) ((rd_T39 t273 (ji37)).f1)) = some r := by rw [if_pos rfl] at H; exact H
                    clear H
                    have H := H1
                    clear H1
                    have H' := Aside0.mk H
                    clear H
                    obtain ⟨Ao56, co56, eo56⟩ := Kd.R_slice HO_32.out
                    subst eo56
                    go_wp2
                    repeat (go_quiet (fail); try go_wp2)
                    go_roundg k4
                    case measure => have := HJ14.out; have := HK2.out; have := HJ39.out; have := HK4.out; omega
                    case rel => exact ⟨(true), (wrap64 (x35_4 + 1)), (by first | rfl | (simp; done) | (simp [*]; done)), (by first | rfl | (simp; done) | (simp [*]; done)), H', ⟨by have := HJ14.out; have := HK2.out; have := HJ39.out; have := HK4.out; omega⟩, ⟨by (with_reducible repeat (first | apply Kd.R_alloc | apply Kd.R_drewN | apply Kd.R_drew)); exact HO_22.out⟩, ⟨by (with_reducible repeat (first | apply Kd.R_alloc | apply Kd.R_drewN | apply Kd.R_drew)); exact HO_32.out⟩, ⟨by (with_reducible repeat (first | refine blk_drewN ?_ _ | refine blk_drew ?_ | refine blk_alloc ?_ _)); exact BK280.out⟩, ⟨by repeat (first | (with_reducible first | exact HB.out | apply below_alloc | apply pw_below_drewN | apply below_drew1 | refine below_set ?_ GE280.out) | exact HB.out)⟩⟩
                   ·replace c55 := Bool.eq_false_iff.mpr c55
                    subst c55
                    have H1 : (if 0 ≤ x35_4 then (if 0 ≤ ((rd_T39 t273 (ji37)).f1) then (if ((rd_T39 t273 (ji37)).f1) < (x22_2.length : Int) then (dialtonelaw24_RouteTables.l1 k4 x22_2 t274 t281 t282 ((rd t281 x35_4) == (rd x22_2 ((rd_T39 t273 (ji37)).f1))) (wrap64 (x35_4 + 1)) ((rd_T39 t273 (ji37)).f0) ((rd_T39 t273 (ji37)).f1)) else (none)) else (none)) else (none)) = some r := by rw [if_neg (show ¬ (false = true) by decide)] at H; exact H
                    clear H
                    have H := H1
                    clear H1
                    by_cases c57 : 0 ≤ x35_4
                    ·rw [if_pos c57] at H
                     have c57b0 : decide (0 ≤ x35_4) = true := decide_eq_true c57
                     clear c57
                     by_cases c58 : 0 ≤ ((rd_T39 t273 (ji37)).f1)
                     ·rw [if_pos c58] at H
                      have c58b0 : decide (0 ≤ ((rd_T39 t273 (ji37)).f1)) = true := decide_eq_true c58
                      clear c58
                      by_cases c59 : ((rd_T39 t273 (ji37)).f1) < (x22_2.length : Int)
                      ·rw [if_pos c59] at H
                       have c59b0 : decide (((rd_T39 t273 (ji37)).f1) < (x22_2.length : Int)) = true := decide_eq_true c59
                       clear c59
                       have H' := Aside0.mk H
                       clear H
                       obtain ⟨Ao60, co60, eo60⟩ := Kd.R_slice HO_32.out
                       subst eo60
                       have p285 : 0 ≤ (x35_4 : Int) := of_decide_eq_true (by first | (with_reducible assumption) | assumption)
                       have q285 : x35_4 < (t281.length : Int) := of_decide_eq_true (by first | (with_reducible assumption) | assumption)
                       (try (obtain ⟨Ao_, co_, eo_⟩ := Kd.R_slice HO_32.out; cases eo_))
                       obtain ⟨ad285, e285, hx285_0⟩ := Kd.at_int (Kd.R_reads' HO_32.out).2.2 x35_4 p285 q285
                       cases e285
                       replace p285 := eq_true p285
                       replace q285 := eq_true q285
                       have hcz61_0 : wr.cell? ⟨gb280, 0, none⟩ = some (.int .i64 ((rd_T39 t273 (ji37)).f0)) := (blk_cell BK280.out 0).trans rfl
                       have hcz61_1 : wr.cell? ⟨gb280, 1, none⟩ = some (.int .i64 ((rd_T39 t273 (ji37)).f1)) := (blk_cell BK280.out 1).trans rfl
                       have hfz61_0 := blk_frozen BK280.out 0
                       have hfz61_1 := blk_frozen BK280.out 1
                       have p286 : 0 ≤ (((rd_T39 t273 (ji37)).f1) : Int) := of_decide_eq_true (by first | (with_reducible assumption) | assumption)
                       have q286 : ((rd_T39 t273 (ji37)).f1) < (x22_2.length : Int) := of_decide_eq_true (by first | (with_reducible assumption) | assumption)
                       (try (obtain ⟨Ao_, co_, eo_⟩ := Kd.R_slice HO_22.out; cases eo_))
                       obtain ⟨ad286, e286, hx286_0⟩ := Kd.at_int (Kd.R_reads' HO_22.out).2.2 ((rd_T39 t273 (ji37)).f1) p286 q286
                       cases e286
                       replace p286 := eq_true p286
                       replace q286 := eq_true q286
                       go_wp2
                       repeat (go_quiet (fail); try go_wp2)
                       go_roundg k4
                       case measure => have := HJ14.out; have := HK2.out; have := HJ39.out; have := HK4.out; omega
                       case rel => exact ⟨(((rd t281 x35_4) == (rd x22_2 ((rd_T39 t273 (ji37)).f1)))), (wrap64 (x35_4 + 1)), (by first | rfl | (simp; done) | (simp only [← hji37] <;> (first | rfl | simp)) | (simp [*]; done)), (by first | rfl | (simp; done) | (simp [*]; done)), H', ⟨by have := HJ14.out; have := HK2.out; have := HJ39.out; have := HK4.out; omega⟩, ⟨by (with_reducible repeat (first | apply Kd.R_alloc | apply Kd.R_drewN | apply Kd.R_drew)); exact HO_22.out⟩, ⟨by (with_reducible repeat (first | apply Kd.R_alloc | apply Kd.R_drewN | apply Kd.R_drew)); exact HO_32.out⟩, ⟨by (with_reducible repeat (first | refine blk_drewN ?_ _ | refine blk_drew ?_ | refine blk_alloc ?_ _)); exact BK280.out⟩, ⟨by repeat (first | (with_reducible first | exact HB.out | apply below_alloc | apply pw_below_drewN | apply below_drew1 | refine below_set ?_ GE280.out) | exact HB.out)⟩⟩
                      ·rw [if_neg c59] at H
                       exact absurd H (by simp)
                     ·rw [if_neg c58] at H
                      exact absurd H (by simp)
                    ·rw [if_neg c57] at H
                     exact absurd H (by simp)
                  ·rw [if_neg c54] at H
                   have c54b0 : decide (x35_4 < (t281.length : Int)) = false := decide_eq_false c54
                   clear c54
                   by_cases c62 : t282 = 0
                   ·rw [if_pos c62] at H
                    have c62b0 : (t282 == 0) = true := beq_iff_eq.mpr c62
                    have c62b1 : (t282 != 0) = false := bne_eq_false_iff_eq.mpr c62
                    clear c62
                    by_cases c63 : x34_4 = true
                    ·subst c63
                     have H1 : (if 0 ≤ ((rd_T39 t273 (ji37)).f1) then (if ((rd_T39 t273 (ji37)).f1) < (x22_2.length : Int) then (if ((t274 == 2) == ((rd x22_2 ((rd_T39 t273 (ji37)).f1)) == (-1))) = true then (if t274 = 1 then (some ((rd x22_2 ((rd_T39 t273 (ji37)).f1)) == ((rd_T39 t273 (ji37)).f0))) else (some true)) else (none)) else (none)) else (none)) = some r := by rw [if_pos rfl] at H; exact H
                     clear H
                     have H := H1
                     clear H1
                     by_cases c64 : 0 ≤ ((rd_T39 t273 (ji37)).f1)
                     ·rw [if_pos c64] at H
                      have c64b0 : decide (0 ≤ ((rd_T39 t273 (ji37)).f1)) = true := decide_eq_true c64
                      clear c64
                      by_cases c65 : ((rd_T39 t273 (ji37)).f1) < (x22_2.length : Int)
                      ·rw [if_pos c65] at H
                       have c65b0 : decide (((rd_T39 t273 (ji37)).f1) < (x22_2.length : Int)) = true := decide_eq_true c65
                       clear c65
                       by_cases c66 : ((t274 == 2) == ((rd x22_2 ((rd_T39 t273 (ji37)).f1)) == (-1))) = true
                       ·rw [if_pos c66] at H
                        have c66b0 : ((t274 == 2) == ((rd x22_2 ((rd_T39 t273 (ji37)).f1)) == (-1))) = true := c66
                        (try (have c66b1 : decide ((t274 == 2) = ((rd x22_2 ((rd_T39 t273 (ji37)).f1)) == (-1))) = true := by simpa using c66))
                        (try (have c66b2 : ((t274 == 2) == ((rd x22_2 ((rd_T39 t273 (ji37)).f1)) == (-1))) = true := by simpa using c66))
                        clear c66
                        by_cases c67 : t274 = 1
                        ·rw [if_pos c67] at H
                         have c67b0 : (t274 == 1) = true := beq_iff_eq.mpr c67
                         have c67b1 : (t274 != 1) = false := bne_eq_false_iff_eq.mpr c67
                         clear c67
                         obtain rfl := Option.some.inj H
                         obtain ⟨Ao68, co68, eo68⟩ := Kd.R_slice HO_32.out
                         subst eo68
                         have hcz69_0 : wr.cell? ⟨gb280, 0, none⟩ = some (.int .i64 ((rd_T39 t273 (ji37)).f0)) := (blk_cell BK280.out 0).trans rfl
                         have hcz69_1 : wr.cell? ⟨gb280, 1, none⟩ = some (.int .i64 ((rd_T39 t273 (ji37)).f1)) := (blk_cell BK280.out 1).trans rfl
                         have hfz69_0 := blk_frozen BK280.out 0
                         have hfz69_1 := blk_frozen BK280.out 1
                         have p287 : 0 ≤ (((rd_T39 t273 (ji37)).f1) : Int) := of_decide_eq_true (by first | (with_reducible assumption) | assumption)
                         have q287 : ((rd_T39 t273 (ji37)).f1) < (x22_2.length : Int) := of_decide_eq_true (by first | (with_reducible assumption) | assumption)
                         (try (obtain ⟨Ao_, co_, eo_⟩ := Kd.R_slice HO_22.out; cases eo_))
                         obtain ⟨ad287, e287, hx287_0⟩ := Kd.at_int (Kd.R_reads' HO_22.out).2.2 ((rd_T39 t273 (ji37)).f1) p287 q287
                         cases e287
                         replace p287 := eq_true p287
                         replace q287 := eq_true q287
                         have p288 : 0 ≤ (((rd_T39 t273 (ji37)).f1) : Int) := of_decide_eq_true (by first | (with_reducible assumption) | assumption)
                         have q288 : ((rd_T39 t273 (ji37)).f1) < (x22_2.length : Int) := of_decide_eq_true (by first | (with_reducible assumption) | assumption)
                         (try (obtain ⟨Ao_, co_, eo_⟩ := Kd.R_slice HO_22.out; cases eo_))
                         obtain ⟨ad288, e288, hx288_0⟩ := Kd.at_int (Kd.R_reads' HO_22.out).2.2 ((rd_T39 t273 (ji37)).f1) p288 q288
                         obtain rfl : ad287 = ad288 := (by injection e288)
                         replace p288 := eq_true p288
                         replace q288 := eq_true q288
                         go_wp2
                         repeat (go_quiet (fail); try go_wp2)
                         go_ret
                         exact ⟨by first | rfl | (simp [errW_none, errW_some] <;> rfl) | (simp only [← hji37]; first | rfl | (simp [errW_none, errW_some] <;> rfl)) | (simp [*, errW_none, errW_some] <;> rfl), by repeat (first | (with_reducible first | exact HB.out | apply below_alloc | apply pw_below_drewN | apply below_drew1 | refine below_set ?_ GE280.out) | exact HB.out)⟩
                        ·rw [if_neg c67] at H
                         have c67b0 : (t274 == 1) = false := beq_eq_false_iff_ne.mpr c67
                         have c67b1 : (t274 != 1) = true := bne_iff_ne.mpr c67
                         obtain rfl := Option.some.inj H
                         obtain ⟨Ao70, co70, eo70⟩ := Kd.R_slice HO_32.out
                         subst eo70
                         have hcz71_0 : wr.cell? ⟨gb280, 0, none⟩ = some (.int .i64 ((rd_T39 t273 (ji37)).f0)) := (blk_cell BK280.out 0).trans rfl
                         have hcz71_1 : wr.cell? ⟨gb280, 1, none⟩ = some (.int .i64 ((rd_T39 t273 (ji37)).f1)) := (blk_cell BK280.out 1).trans rfl
                         have hfz71_0 := blk_frozen BK280.out 0
                         have hfz71_1 := blk_frozen BK280.out 1
                         have p287 : 0 ≤ (((rd_T39 t273 (ji37)).f1) : Int) := of_decide_eq_true (by first | (with_reducible assumption) | assumption)
                         have q287 : ((rd_T39 t273 (ji37)).f1) < (x22_2.length : Int) := of_decide_eq_true (by first | (with_reducible assumption) | assumption)
                         (try (obtain ⟨Ao_, co_, eo_⟩ := Kd.R_slice HO_22.out; cases eo_))
                         obtain ⟨ad287, e287, hx287_0⟩ := Kd.at_int (Kd.R_reads' HO_22.out).2.2 ((rd_T39 t273 (ji37)).f1) p287 q287
                         cases e287
                         replace p287 := eq_true p287
                         replace q287 := eq_true q287
                         go_wp2
                         repeat (go_quiet (fail); try go_wp2)
                         go_ret
                         exact ⟨by first | rfl | (simp [errW_none, errW_some] <;> rfl) | (simp only [← hji37]; first | rfl | (simp [errW_none, errW_some] <;> rfl)) | (simp [*, errW_none, errW_some] <;> rfl), by repeat (first | (with_reducible first | exact HB.out | apply below_alloc | apply pw_below_drewN | apply below_drew1 | refine below_set ?_ GE280.out) | exact HB.out)⟩
                       ·rw [if_neg c66] at H
                        exact absurd H (by simp)
                      ·rw [if_neg c65] at H
                       exact absurd H (by simp)
                     ·rw [if_neg c64] at H
                      exact absurd H (by simp)
                    ·replace c63 := Bool.eq_false_iff.mpr c63
                     subst c63
                     have H1 : (none) = some r := by rw [if_neg (show ¬ (false = true) by decide)] at H; exact H
                     clear H
                     have H := H1
                     clear H1
                     exact absurd H (by simp)
                   ·rw [if_neg c62] at H
                    exact absurd H (by simp)
            ·rw [if_neg c39] at H
             exact absurd H (by simp)
           ·rw [if_neg c38] at H
            exact absurd H (by simp)
         ·rw [if_neg c35] at H
          have c35b0 : (t275 == 0) = false := beq_eq_false_iff_ne.mpr c35
          have c35b1 : (t275 != 0) = true := bne_iff_ne.mpr c35
          by_cases c72 : t275 = 240
          ·rw [if_pos c72] at H
           have c72b0 : (t275 == 240) = true := beq_iff_eq.mpr c72
           have c72b1 : (t275 != 240) = false := bne_eq_false_iff_eq.mpr c72
           clear c72
           by_cases c73 : 0 ≤ t272
           ·rw [if_pos c73] at H
            have c73b0 : decide (0 ≤ t272) = true := decide_eq_true c73
            clear c73
            by_cases c74 : t272 < (t269.length : Int)
            ·rw [if_pos c74] at H
             have c74b0 : decide (t272 < (t269.length : Int)) = true := decide_eq_true c74
             clear c74
             obtain rfl := Option.some.inj H
             obtain ⟨Ao75, co75, eo75⟩ := Kd.R_slice HO_22.out
             subst eo75
             go_wp2_with (first | (go_at_call 10; (with_reducible refine (dialtoneref24_Known.calls k2 _ _ x22_2 (wrap64 (t262 - t261)) _ _ l5 t269 _ ?side1 ?side2 ?side3 ?side4 A32.out).mono ?_); (case side1 => repeat (first | exact (Kd.R_reads' HO_22.out).2.2 | (with_reducible refine Kd.C_alloc ?_ _) | (with_reducible refine Kd.C_drewN ?_ _) | (with_reducible refine Kd.C_drew ?_))); (case side2 => exact (Kd.R_reads' HO_22.out).2.1); (case side3 => repeat (first | exact (Kd.C_below HR5.out HB.out) | (with_reducible refine Kd.C_alloc ?_ _) | (with_reducible refine Kd.C_drewN ?_ _) | (with_reducible refine Kd.C_drew ?_))); (case side4 => exact HC5.out); rintro e w76 ⟨v270, rfl, ho0, hb⟩; have n0_ := Aside0.mk (Kd.R_below (by (with_reducible repeat (first | apply Kd.R_alloc | apply Kd.R_drewN | apply Kd.R_drew)); exact HO_16.out) hb); have n1_ := Aside0.mk (Kd.R_elder' (by (with_reducible repeat (first | apply Kd.R_alloc | apply Kd.R_drewN | apply Kd.R_drew)); exact HO_22.out) (Kd.R_base ho0) hb); have n2_ := Aside0.mk (Kd.R_lower (Kd.R_new' ho0 (Kd.R_lt (by (with_reducible repeat (first | apply Kd.R_alloc | apply Kd.R_drewN | apply Kd.R_drew)); exact HO_22.out))) (below_size (by repeat (first | (with_reducible first | exact HB.out | apply below_alloc | apply pw_below_drewN | apply below_drew1) | exact HB.out)))); have n3_ := Aside0.mk (below_step (by repeat (first | (with_reducible first | exact HB.out | apply below_alloc | apply pw_below_drewN | apply below_drew1) | exact HB.out)) hb); clear HO_16; clear HO_22; clear HB; have HO_16 := n0_; have HO_22 := n1_; have HO271 := n2_; have HB := n3_; clear n0_ n1_ n2_ n3_; (try clear hb); (try clear hb2); (try clear hk); (try clear hi); (try clear ho0)) | (go_at_call 7; (with_reducible refine (dialtonelaw24_pick.calls a6 8 t272 _ A33.out).mono ?_); rintro e w' ⟨rfl, ⟨nd, rfl⟩⟩; (try first | exact ⟨rfl, _, World.drewN_drewN _ _ _⟩ | exact ⟨rfl, _, Eq.trans (World.drewN_drewN _ _ _) (congrArg (World.drewN _) (Nat.add_assoc _ _ _))⟩); obtain ⟨Ao77, co77, eo77⟩ := Kd.R_slice HO271.out; subst eo77) | (go_at_call 11; (with_reducible refine (route_Path.calls k2 _ _ x22_2 _ _ t269 (wrap64 (t262 - t261)) t272 t273 t274 t275 _ ?side1 ?side2 ?side3 ?side4 A34.out).mono ?_); (case side1 => repeat (first | exact (Kd.R_reads' HO_22.out).2.2 | (with_reducible refine Kd.C_alloc ?_ _) | (with_reducible refine Kd.C_drewN ?_ _) | (with_reducible refine Kd.C_drew ?_))); (case side2 => exact (Kd.R_reads' HO_22.out).2.1); (case side3 => repeat (first | exact (Kd.R_reads' HO271.out).2.2 | (with_reducible refine Kd.C_alloc ?_ _) | (with_reducible refine Kd.C_drewN ?_ _) | (with_reducible refine Kd.C_drew ?_))); (case side4 => exact (Kd.R_reads' HO271.out).2.1); rintro e w78 ⟨v276, rfl, ho0, hb⟩; have n0_ := Aside0.mk (Kd.R_below (by (with_reducible repeat (first | apply Kd.R_alloc | apply Kd.R_drewN | apply Kd.R_drew)); exact HO_16.out) hb); have n1_ := Aside0.mk (Kd.R_below (by (with_reducible repeat (first | apply Kd.R_alloc | apply Kd.R_drewN | apply Kd.R_drew)); exact HO_22.out) hb); have n2_ := Aside0.mk (Kd.R_below (by (with_reducible repeat (first | apply Kd.R_alloc | apply Kd.R_drewN | apply Kd.R_drew)); exact HO271.out) hb); have n3_ := Aside0.mk (Kd.R_lower ho0 (below_size (by repeat (first | (with_reducible first | exact HB.out | apply below_alloc | apply pw_below_drewN | apply below_drew1) | exact HB.out)))); have n4_ := Aside0.mk (below_step (by repeat (first | (with_reducible first | exact HB.out | apply below_alloc | apply pw_below_drewN | apply below_drew1) | exact HB.out)) hb); clear HO_16; clear HO_22; clear HO271; clear HB; have HO_16 := n0_; have HO_22 := n1_; have HO271 := n2_; have HO277 := n3_; have HB := n4_; clear n0_ n1_ n2_ n3_ n4_; (try clear hb); (try clear hb2); (try clear hk); (try clear hi); (try clear ho0); have p278 : 0 ≤ (t272 : Int) := of_decide_eq_true (by first | (with_reducible assumption) | assumption); have q278 : t272 < (t269.length : Int) := of_decide_eq_true (by first | (with_reducible assumption) | assumption); obtain ⟨ad278, e278, hx278_0⟩ := Kd.at_int (Kd.R_reads' HO271.out).2.2 t272 p278 q278; cases e278; replace p278 := eq_true p278; replace q278 := eq_true q278))
             repeat (go_quiet (first | (go_at_call 10; (with_reducible refine (dialtoneref24_Known.calls k2 _ _ x22_2 (wrap64 (t262 - t261)) _ _ l5 t269 _ ?side1 ?side2 ?side3 ?side4 A32.out).mono ?_); (case side1 => repeat (first | exact (Kd.R_reads' HO_22.out).2.2 | (with_reducible refine Kd.C_alloc ?_ _) | (with_reducible refine Kd.C_drewN ?_ _) | (with_reducible refine Kd.C_drew ?_))); (case side2 => exact (Kd.R_reads' HO_22.out).2.1); (case side3 => repeat (first | exact (Kd.C_below HR5.out HB.out) | (with_reducible refine Kd.C_alloc ?_ _) | (with_reducible refine Kd.C_drewN ?_ _) | (with_reducible refine Kd.C_drew ?_))); (case side4 => exact HC5.out); rintro e w76 ⟨v270, rfl, ho0, hb⟩; have n0_ := Aside0.mk (Kd.R_below (by (with_reducible repeat (first | apply Kd.R_alloc | apply Kd.R_drewN | apply Kd.R_drew)); exact HO_16.out) hb); have n1_ := Aside0.mk (Kd.R_elder' (by (with_reducible repeat (first | apply Kd.R_alloc | apply Kd.R_drewN | apply Kd.R_drew)); exact HO_22.out) (Kd.R_base ho0) hb); have n2_ := Aside0.mk (Kd.R_lower (Kd.R_new' ho0 (Kd.R_lt (by (with_reducible repeat (first | apply Kd.R_alloc | apply Kd.R_drewN | apply Kd.R_drew)); exact HO_22.out))) (below_size (by repeat (first | (with_reducible first | exact HB.out | apply below_alloc | apply pw_below_drewN | apply below_drew1) | exact HB.out)))); have n3_ := Aside0.mk (below_step (by repeat (first | (with_reducible first | exact HB.out | apply below_alloc | apply pw_below_drewN | apply below_drew1) | exact HB.out)) hb); clear HO_16; clear HO_22; clear HB; have HO_16 := n0_; have HO_22 := n1_; have HO271 := n2_; have HB := n3_; clear n0_ n1_ n2_ n3_; (try clear hb); (try clear hb2); (try clear hk); (try clear hi); (try clear ho0)) | (go_at_call 7; (with_reducible refine (dialtonelaw24_pick.calls a6 8 t272 _ A33.out).mono ?_); rintro e w' ⟨rfl, ⟨nd, rfl⟩⟩; (try first | exact ⟨rfl, _, World.drewN_drewN _ _ _⟩ | exact ⟨rfl, _, Eq.trans (World.drewN_drewN _ _ _) (congrArg (World.drewN _) (Nat.add_assoc _ _ _))⟩); obtain ⟨Ao77, co77, eo77⟩ := Kd.R_slice HO271.out; subst eo77) | (go_at_call 11; (with_reducible refine (route_Path.calls k2 _ _ x22_2 _ _ t269 (wrap64 (t262 - t261)) t272 t273 t274 t275 _ ?side1 ?side2 ?side3 ?side4 A34.out).mono ?_); (case side1 => repeat (first | exact (Kd.R_reads' HO_22.out).2.2 | (with_reducible refine Kd.C_alloc ?_ _) | (with_reducible refine Kd.C_drewN ?_ _) | (with_reducible refine Kd.C_drew ?_))); (case side2 => exact (Kd.R_reads' HO_22.out).2.1); (case side3 => repeat (first | exact (Kd.R_reads' HO271.out).2.2 | (with_reducible refine Kd.C_alloc ?_ _) | (with_reducible refine Kd.C_drewN ?_ _) | (with_reducible refine Kd.C_drew ?_))); (case side4 => exact (Kd.R_reads' HO271.out).2.1); rintro e w78 ⟨v276, rfl, ho0, hb⟩; have n0_ := Aside0.mk (Kd.R_below (by (with_reducible repeat (first | apply Kd.R_alloc | apply Kd.R_drewN | apply Kd.R_drew)); exact HO_16.out) hb); have n1_ := Aside0.mk (Kd.R_below (by (with_reducible repeat (first | apply Kd.R_alloc | apply Kd.R_drewN | apply Kd.R_drew)); exact HO_22.out) hb); have n2_ := Aside0.mk (Kd.R_below (by (with_reducible repeat (first | apply Kd.R_alloc | apply Kd.R_drewN | apply Kd.R_drew)); exact HO271.out) hb); have n3_ := Aside0.mk (Kd.R_lower ho0 (below_size (by repeat (first | (with_reducible first | exact HB.out | apply below_alloc | apply pw_below_drewN | apply below_drew1) | exact HB.out)))); have n4_ := Aside0.mk (below_step (by repeat (first | (with_reducible first | exact HB.out | apply below_alloc | apply pw_below_drewN | apply below_drew1) | exact HB.out)) hb); clear HO_16; clear HO_22; clear HO271; clear HB; have HO_16 := n0_; have HO_22 := n1_; have HO271 := n2_; have HO277 := n3_; have HB := n4_; clear n0_ n1_ n2_ n3_ n4_; (try clear hb); (try clear hb2); (try clear hk); (try clear hi); (try clear ho0); have p278 : 0 ≤ (t272 : Int) := of_decide_eq_true (by first | (with_reducible assumption) | assumption); have q278 : t272 < (t269.length : Int) := of_decide_eq_true (by first | (with_reducible assumption) | assumption); obtain ⟨ad278, e278, hx278_0⟩ := Kd.at_int (Kd.R_reads' HO271.out).2.2 t272 p278 q278; cases e278; replace p278 := eq_true p278; replace q278 := eq_true q278)); try go_wp2_with (first | (go_at_call 10; (with_reducible refine (dialtoneref24_Known.calls k2 _ _ x22_2 (wrap64 (t262 - t261)) _ _ l5 t269 _ ?side1 ?side2 ?side3 ?side4 A32.out).mono ?_); (case side1 => repeat (first | exact (Kd.R_reads' HO_22.out).2.2 | (with_reducible refine Kd.C_alloc ?_ _) | (with_reducible refine Kd.C_drewN ?_ _) | (with_reducible refine Kd.C_drew ?_))); (case side2 => exact (Kd.R_reads' HO_22.out).2.1); (case side3 => repeat (first | exact (Kd.C_below HR5.out HB.out) | (with_reducible refine Kd.C_alloc ?_ _) | (with_reducible refine Kd.C_drewN ?_ _) | (with_reducible refine Kd.C_drew ?_))); (case side4 => exact HC5.out); rintro e w76 ⟨v270, rfl, ho0, hb⟩; have n0_ := Aside0.mk (Kd.R_below (by (with_reducible repeat (first | apply Kd.R_alloc | apply Kd.R_drewN | apply Kd.R_drew)); exact HO_16.out) hb); have n1_ := Aside0.mk (Kd.R_elder' (by (with_reducible repeat (first | apply Kd.R_alloc | apply Kd.R_drewN | apply Kd.R_drew)); exact HO_22.out) (Kd.R_base ho0) hb); have n2_ := Aside0.mk (Kd.R_lower (Kd.R_new' ho0 (Kd.R_lt (by (with_reducible repeat (first | apply Kd.R_alloc | apply Kd.R_drewN | apply Kd.R_drew)); exact HO_22.out))) (below_size (by repeat (first | (with_reducible first | exact HB.out | apply below_alloc | apply pw_below_drewN | apply below_drew1) | exact HB.out)))); have n3_ := Aside0.mk (below_step (by repeat (first | (with_reducible first | exact HB.out | apply below_alloc | apply pw_below_drewN | apply below_drew1) | exact HB.out)) hb); clear HO_16; clear HO_22; clear HB; have HO_16 := n0_; have HO_22 := n1_; have HO271 := n2_; have HB := n3_; clear n0_ n1_ n2_ n3_; (try clear hb); (try clear hb2); (try clear hk); (try clear hi); (try clear ho0)) | (go_at_call 7; (with_reducible refine (dialtonelaw24_pick.calls a6 8 t272 _ A33.out).mono ?_); rintro e w' ⟨rfl, ⟨nd, rfl⟩⟩; (try first | exact ⟨rfl, _, World.drewN_drewN _ _ _⟩ | exact ⟨rfl, _, Eq.trans (World.drewN_drewN _ _ _) (congrArg (World.drewN _) (Nat.add_assoc _ _ _))⟩); obtain ⟨Ao77, co77, eo77⟩ := Kd.R_slice HO271.out; subst eo77) | (go_at_call 11; (with_reducible refine (route_Path.calls k2 _ _ x22_2 _ _ t269 (wrap64 (t262 - t261)) t272 t273 t274 t275 _ ?side1 ?side2 ?side3 ?side4 A34.out).mono ?_); (case side1 => repeat (first | exact (Kd.R_reads' HO_22.out).2.2 | (with_reducible refine Kd.C_alloc ?_ _) | (with_reducible refine Kd.C_drewN ?_ _) | (with_reducible refine Kd.C_drew ?_))); (case side2 => exact (Kd.R_reads' HO_22.out).2.1); (case side3 => repeat (first | exact (Kd.R_reads' HO271.out).2.2 | (with_reducible refine Kd.C_alloc ?_ _) | (with_reducible refine Kd.C_drewN ?_ _) | (with_reducible refine Kd.C_drew ?_))); (case side4 => exact (Kd.R_reads' HO271.out).2.1); rintro e w78 ⟨v276, rfl, ho0, hb⟩; have n0_ := Aside0.mk (Kd.R_below (by (with_reducible repeat (first | apply Kd.R_alloc | apply Kd.R_drewN | apply Kd.R_drew)); exact HO_16.out) hb); have n1_ := Aside0.mk (Kd.R_below (by (with_reducible repeat (first | apply Kd.R_alloc | apply Kd.R_drewN | apply Kd.R_drew)); exact HO_22.out) hb); have n2_ := Aside0.mk (Kd.R_below (by (with_reducible repeat (first | apply Kd.R_alloc | apply Kd.R_drewN | apply Kd.R_drew)); exact HO271.out) hb); have n3_ := Aside0.mk (Kd.R_lower ho0 (below_size (by repeat (first | (with_reducible first | exact HB.out | apply below_alloc | apply pw_below_drewN | apply below_drew1) | exact HB.out)))); have n4_ := Aside0.mk (below_step (by repeat (first | (with_reducible first | exact HB.out | apply below_alloc | apply pw_below_drewN | apply below_drew1) | exact HB.out)) hb); clear HO_16; clear HO_22; clear HO271; clear HB; have HO_16 := n0_; have HO_22 := n1_; have HO271 := n2_; have HO277 := n3_; have HB := n4_; clear n0_ n1_ n2_ n3_ n4_; (try clear hb); (try clear hb2); (try clear hk); (try clear hi); (try clear ho0); have p278 : 0 ≤ (t272 : Int) := of_decide_eq_true (by first | (with_reducible assumption) | assumption); have q278 : t272 < (t269.length : Int) := of_decide_eq_true (by first | (with_reducible assumption) | assumption); obtain ⟨ad278, e278, hx278_0⟩ := Kd.at_int (Kd.R_reads' HO271.out).2.2 t272 p278 q278; cases e278; replace p278 := eq_true p278; replace q278 := eq_true q278)))
             go_ret
             exact ⟨by first | rfl | (simp [errW_none, errW_some] <;> rfl) | (simp [*, errW_none, errW_some] <;> rfl), by repeat (first | (with_reducible first | exact HB.out | apply below_alloc | apply pw_below_drewN | apply below_drew1) | exact HB.out)⟩
            ·rw [if_neg c74] at H
             exact absurd H (by simp)
           ·rw [if_neg c73] at H
            exact absurd H (by simp)
          ·rw [if_neg c72] at H
           exact absurd H (by simp)
 ·replace c9 := Bool.eq_false_iff.mpr c9
  subst c9
  have H1 : (none) = some r := by rw [if_neg (show ¬ (false = true) by decide)] at H; exact H
  clear H
  have H := H1
  clear H1
  exact absurd H (by simp)

/-- THE ONE PURE STATEMENT of dialtonelaw24_RouteTables: yours. -/
def dialtonelaw24_RouteTables.Pure : Prop := ∀ (l0 : List (S53)) (a1 : Int) (a2 : Int) (a3 : Int) (a4 : Int) (l5 : List Int) (a6 : Int), l0.length ≤ maxLen → (∀ x ∈ l0, ((Lit.int .i64 x.f0).wf = true ∧ (Lit.int .i64 x.f1).wf = true ∧ (Lit.int .i64 x.f2).wf = true ∧ (Lit.int .i64 x.f3).wf = true)) → (Lit.int .i64 a1).wf = true → (Lit.int .i64 a2).wf = true → (Lit.int .i64 a3).wf = true → (Lit.int .i64 a4).wf = true → l5.length ≤ maxLen → l5.length * 8 ≤ 140737488351232 → (∀ x ∈ l5, (Lit.int .i64 x).wf = true) → (Lit.int .i64 a6).wf = true → ∃ k, dialtonelaw24_RouteTables.f k l0 a1 a2 a3 a4 l5 a6 = some true
theorem dialtonelaw24_RouteTables.walk (P : dialtonelaw24_RouteTables.Pure) (a0 : Option Addr) (cap0 : Nat) (l0 : List (S53)) (a1 : Int) (a2 : Int) (a3 : Int) (a4 : Int) (a5 : Option Addr) (len5 cap5 : Nat) (z5 : List Int) (a6 : Int) (w : World) (w0 : Kd.C k53 w a0 l0.length l0) (cc0 : l0.length ≤ cap0) (ml0 : l0.length ≤ maxLen) (wf0 : ∀ x ∈ l0, ((Lit.int .i64 x.f0).wf = true ∧ (Lit.int .i64 x.f1).wf = true ∧ (Lit.int .i64 x.f2).wf = true ∧ (Lit.int .i64 x.f3).wf = true)) (w1 : (Lit.int .i64 a1).wf = true) (w2 : (Lit.int .i64 a2).wf = true) (w3 : (Lit.int .i64 a3).wf = true) (w4 : (Lit.int .i64 a4).wf = true) (w5 : (a5 = none ∧ len5 = 0 ∧ cap5 = 0 ∧ z5 = []) ∨ ∃ x, a5 = some x ∧ len5 ≤ cap5 ∧ cap5 ≤ maxLen ∧ z5.length = cap5 ∧ (∀ i, i < z5.length → w.cell? (x.add i) = some (.int .i64 (z5.getD i 0))) ∧ ∀ n ∈ z5, (Lit.int .i64 n).wf = true) (y5 : len5 * 8 ≤ 140737488351232) (w6 : (Lit.int .i64 a6).wf = true) :
  Calls Try.prog 3 #[.slice a0 l0.length cap0, .int .i64 a1, .int .i64 a2, .int .i64 a3, .int .i64 a4, .slice a5 len5 cap5, .int .i64 a6] w fun e w' => e = .returned (.bool true) ∧ Below w.heap.size w w' := by
 obtain ⟨l5, rfl, hr5, hm5, hw5, hc5⟩ := ReadsInt.ofRowC w5
 obtain ⟨k, h⟩ := P l0 a1 a2 a3 a4 l5 a6 ml0 wf0 w1 w2 w3 w4 hm5 y5 hw5 w6
 refine (dialtonelaw24_RouteTables.calls k _ _ l0 a1 a2 a3 a4 _ _ l5 a6 true w w0 cc0 (Kd.C_of_reads (d := (0 : Int)) (h1 := fun _ => rfl) hr5) hc5 h).mono ?_
 rintro e w' ⟨rfl, hd⟩
 exact ⟨rfl, hd⟩

end Go.Proofs.Ytlhhcjlcaacfpaa.P
