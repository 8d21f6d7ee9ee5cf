-- PRINTED by print.py (a twelfth state) out of the translation. Not trusted: Lean checks it.
import Derived.Test.YtmiahmpobpokmaaPx0
import Derived.Test.YtmiahmpobpokmaaPx15
import Derived.Test.YtmiahmpobpokmaaPx16
namespace Go.Proofs.Ytmiahmpobpokmaa.P
open Go.RowKit Go.Proofs.YtmiahmpobpokmaaW.PrintWords Go.Proofs.YtmiahmpobpokmaaW.PrintLast Go.Proofs.YtmiahmpobpokmaaW.PrintMore Go.Proofs.YtmiahmpobpokmaaH Go.Proofs.YtmiahmpobpokmaaR
attribute [local go_sem] max2_int min2_int max_two min_two max_three min_three max_four min_four   -- for this text's walks alone
set_option linter.unusedVariables false
set_option linter.unusedSimpArgs false

/-! ### dialtoneref24_Blame: function 27 -/
mutual
def dialtoneref24_Blame.j0 : Nat → List Int → List (S40) → Bool → Option (Int)
 | 0, _, _, _ => none
 | k + 1, x0, x1, x14 => if x14 = true then (some (-2)) else (dialtoneref24_Blame.l0 k x0 x1 0)
def dialtoneref24_Blame.l0 : Nat → List Int → List (S40) → Int → Option (Int)
 | 0, _, _, _ => none
 | k + 1, x0, x1, x5 => if x5 < (x1.length : Int) then (if 0 ≤ x5 then ((dialtoneref24_in.f ((rd_T40 x1 x5).f0) 0 7).bind fun t299 => (if t299 = true then ((dialtoneref24_in.f ((rd_T40 x1 x5).f1) 0 (wrap64 ((x0.length : Int) - 1))).bind fun t300 => (dialtoneref24_Blame.j2 k x0 x1 x5 (!t300) ((rd_T40 x1 x5).f0) ((rd_T40 x1 x5).f1))) else (dialtoneref24_Blame.j2 k x0 x1 x5 true ((rd_T40 x1 x5).f0) ((rd_T40 x1 x5).f1)))) else (none)) else (some (-1))
def dialtoneref24_Blame.j2 : Nat → List Int → List (S40) → Int → Bool → Int → Int → Option (Int)
 | 0, _, _, _, _, _, _ => none
 | k + 1, x0, x1, x5, x37, x299000, x299001 => if x37 = true then (some x5) else (if x5 > 0 then (if 0 ≤ (wrap64 (x5 - 1)) then (if (wrap64 (x5 - 1)) < (x1.length : Int) then (if 0 ≤ ((rd_T40 x1 (wrap64 (x5 - 1))).f1) then (if ((rd_T40 x1 (wrap64 (x5 - 1))).f1) < (x0.length : Int) then (if x299000 = (rd x0 ((rd_T40 x1 (wrap64 (x5 - 1))).f1)) then (dialtoneref24_Blame.j3 k x0 x1 x5 (decide (x299001 < ((rd_T40 x1 (wrap64 (x5 - 1))).f1))) x299000 x299001) else (dialtoneref24_Blame.j3 k x0 x1 x5 true x299000 x299001)) else (none)) else (none)) else (none)) else (none)) else (dialtoneref24_Blame.j3 k x0 x1 x5 false x299000 x299001))
def dialtoneref24_Blame.j3 : Nat → List Int → List (S40) → Int → Bool → Int → Int → Option (Int)
 | 0, _, _, _, _, _, _ => none
 | k + 1, x0, x1, x5, x65, x299000, x299001 => if x65 = true then (some x5) else (if x5 < (wrap64 ((x1.length : Int) - 1)) then (if 0 ≤ x299001 then (if x299001 < (x0.length : Int) then (if (rd x0 x299001) = x299000 then (some x5) else (if (rd x0 x299001) = (-1) then (some x5) else (dialtoneref24_Blame.l0 k x0 x1 (wrap64 (x5 + 1))))) else (none)) else (none)) else (dialtoneref24_Blame.l0 k x0 x1 (wrap64 (x5 + 1))))
end
def dialtoneref24_Blame.f (k : Nat) (l0 : List Int) (l1 : List (S40)) : Option (Int) := (dialtoneref24_holders.f k l0).bind fun t296 => (if t296 = true then (dialtoneref24_Blame.j0 k l0 l1 ((l1.length : Int) == 0)) else (dialtoneref24_Blame.j0 k l0 l1 true))
theorem dialtoneref24_Blame.mono_l : ∀ k, (∀ y0 y1 y2, LeO (dialtoneref24_Blame.j0 k y0 y1 y2) (dialtoneref24_Blame.j0 (k + 1) y0 y1 y2)) ∧ (∀ y0 y1 y2, LeO (dialtoneref24_Blame.l0 k y0 y1 y2) (dialtoneref24_Blame.l0 (k + 1) y0 y1 y2)) ∧ (∀ y0 y1 y2 y3 y4 y5, LeO (dialtoneref24_Blame.j2 k y0 y1 y2 y3 y4 y5) (dialtoneref24_Blame.j2 (k + 1) y0 y1 y2 y3 y4 y5)) ∧ (∀ y0 y1 y2 y3 y4 y5, LeO (dialtoneref24_Blame.j3 k y0 y1 y2 y3 y4 y5) (dialtoneref24_Blame.j3 (k + 1) y0 y1 y2 y3 y4 y5))
 | 0 => ⟨fun _ _ _ r h => by simp [dialtoneref24_Blame.j0] at h, fun _ _ _ r h => by simp [dialtoneref24_Blame.l0] at h, fun _ _ _ _ _ _ r h => by simp [dialtoneref24_Blame.j2] at h, fun _ _ _ _ _ _ r h => by simp [dialtoneref24_Blame.j3] at h⟩
 | k + 1 => by
  obtain ⟨ih0, ih1, ih2, ih3⟩ := dialtoneref24_Blame.mono_l k
  refine ⟨?_, ?_, ?_, ?_⟩
  ·intro y0 y1 y2
   unfold dialtoneref24_Blame.j0
   repeat' first
   | (with_reducible exact ih0 _ _ _)
   | (with_reducible exact ih1 _ _ _)
   | (with_reducible exact ih2 _ _ _ _ _ _)
   | (with_reducible exact ih3 _ _ _ _ _ _)
   | (with_reducible exact dialtoneref24_holders.mono _ _)
   | (with_reducible exact LeO.refl _)
   | (with_reducible exact LeO.none _)
   | (with_reducible refine LeO.ite ?_ ?_)
   | (with_reducible refine LeO.bind ?_ (fun _ => ?_))
   | exact ih0 _ _ _
   | exact ih1 _ _ _
   | exact ih2 _ _ _ _ _ _
   | exact ih3 _ _ _ _ _ _
   | exact dialtoneref24_holders.mono _ _
   | exact LeO.none _
   | refine LeO.ite ?_ ?_
   | refine LeO.bind ?_ (fun _ => ?_)
  ·intro y0 y1 y2
   unfold dialtoneref24_Blame.l0
   repeat' first
   | (with_reducible exact ih0 _ _ _)
   | (with_reducible exact ih1 _ _ _)
   | (with_reducible exact ih2 _ _ _ _ _ _)
   | (with_reducible exact ih3 _ _ _ _ _ _)
   | (with_reducible exact dialtoneref24_holders.mono _ _)
   | (with_reducible exact LeO.refl _)
   | (with_reducible exact LeO.none _)
   | (with_reducible refine LeO.ite ?_ ?_)
   | (with_reducible refine LeO.bind ?_ (fun _ => ?_))
   | exact ih0 _ _ _
   | exact ih1 _ _ _
   | exact ih2 _ _ _ _ _ _
   | exact ih3 _ _ _ _ _ _
   | exact dialtoneref24_holders.mono _ _
   | exact LeO.none _
   | refine LeO.ite ?_ ?_
   | refine LeO.bind ?_ (fun _ => ?_)
  ·intro y0 y1 y2 y3 y4 y5
   unfold dialtoneref24_Blame.j2
   repeat' first
   | (with_reducible exact ih0 _ _ _)
   | (with_reducible exact ih1 _ _ _)
   | (with_reducible exact ih2 _ _ _ _ _ _)
   | (with_reducible exact ih3 _ _ _ _ _ _)
   | (with_reducible exact dialtoneref24_holders.mono _ _)
   | (with_reducible exact LeO.refl _)
   | (with_reducible exact LeO.none _)
   | (with_reducible refine LeO.ite ?_ ?_)
   | (with_reducible refine LeO.bind ?_ (fun _ => ?_))
   | exact ih0 _ _ _
   | exact ih1 _ _ _
   | exact ih2 _ _ _ _ _ _
   | exact ih3 _ _ _ _ _ _
   | exact dialtoneref24_holders.mono _ _
   | exact LeO.none _
   | refine LeO.ite ?_ ?_
   | refine LeO.bind ?_ (fun _ => ?_)
  ·intro y0 y1 y2 y3 y4 y5
   unfold dialtoneref24_Blame.j3
   repeat' first
   | (with_reducible exact ih0 _ _ _)
   | (with_reducible exact ih1 _ _ _)
   | (with_reducible exact ih2 _ _ _ _ _ _)
   | (with_reducible exact ih3 _ _ _ _ _ _)
   | (with_reducible exact dialtoneref24_holders.mono _ _)
   | (with_reducible exact LeO.refl _)
   | (with_reducible exact LeO.none _)
   | (with_reducible refine LeO.ite ?_ ?_)
   | (with_reducible refine LeO.bind ?_ (fun _ => ?_))
   | exact ih0 _ _ _
   | exact ih1 _ _ _
   | exact ih2 _ _ _ _ _ _
   | exact ih3 _ _ _ _ _ _
   | exact dialtoneref24_holders.mono _ _
   | exact LeO.none _
   | refine LeO.ite ?_ ?_
   | refine LeO.bind ?_ (fun _ => ?_)
theorem dialtoneref24_Blame.mono : ∀ a0 a1 k, LeO (dialtoneref24_Blame.f k a0 a1) (dialtoneref24_Blame.f (k + 1) a0 a1) := by
 intro a0 a1 k
 obtain ⟨ih0, ih1, ih2, ih3⟩ := dialtoneref24_Blame.mono_l k
 unfold dialtoneref24_Blame.f
 repeat' first
   | (with_reducible exact ih0 _ _ _)
   | (with_reducible exact ih1 _ _ _)
   | (with_reducible exact ih2 _ _ _ _ _ _)
   | (with_reducible exact ih3 _ _ _ _ _ _)
   | (with_reducible exact dialtoneref24_holders.mono _ _)
   | (with_reducible exact LeO.refl _)
   | (with_reducible exact LeO.none _)
   | (with_reducible refine LeO.ite ?_ ?_)
   | (with_reducible refine LeO.bind ?_ (fun _ => ?_))
   | exact ih0 _ _ _
   | exact ih1 _ _ _
   | exact ih2 _ _ _ _ _ _
   | exact ih3 _ _ _ _ _ _
   | exact dialtoneref24_holders.mono _ _
   | exact LeO.none _
   | refine LeO.ite ?_ ?_
   | refine LeO.bind ?_ (fun _ => ?_)
set_option maxHeartbeats 8000000 in
set_option maxRecDepth 100000 in
theorem dialtoneref24_Blame.calls (k : Nat) (A0 : Option Addr) (c0 : Nat) (l0 : List Int) (A1 : Option Addr) (c1 : Nat) (l1 : List (S40)) (r : Int) (w : World) (hr0 : Kd.C (Kd.int .i64) w A0 l0.length l0) (hc0 : l0.length ≤ c0) (hr1 : Kd.C k40 w A1 l1.length l1) (hc1 : l1.length ≤ c1) (h : dialtoneref24_Blame.f k l0 l1 = some r) :
  Calls Try.prog 27 #[.slice A0 l0.length c0, .slice A1 l1.length c1] w fun e w' => e = .returned (.int .i64 r) ∧ Below w.heap.size w w' := by
 have hu40 := Try.underlying40
 have HR0 := Aside0.mk hr0
 have HC0 := Aside0.mk hc0
 clear hr0 hc0
 have HR1 := Aside0.mk hr1
 have HC1 := Aside0.mk hc1
 clear hr1 hc1
 have HB := Aside0.mk (Below.refl w.heap.size w)
 have H : ((dialtoneref24_holders.f k l0).bind fun t296 => (if t296 = true then (dialtoneref24_Blame.j0 k l0 l1 ((l1.length : Int) == 0)) else (dialtoneref24_Blame.j0 k l0 l1 true))) = some r := h
 clear h
 have HC3 := Aside0.mk H
 clear H
 go_enter Try.func27, Try.ntmps27
 go_upto_region 1 with (fail)
 repeat (go_quiet (fail); go_upto_region 1 with (fail))
 go_cut [14] (fun v14 wc => ∃ (kq : Nat) (x14_2 : Bool), v14 = .bool x14_2 ∧ Aside0 (dialtoneref24_Blame.j0 kq l0 l1 x14_2 = some r) ∧ Aside0 (kq ≤ k) ∧ Aside0 (Below w.heap.size w wc))
 case first =>
  have H := HC3.out
  clear HC3
  replace H := Option.bind_eq_some_iff.mp H
  obtain ⟨t296, A40, H⟩ := H
  replace H : (if t296 = true then (dialtoneref24_Blame.j0 k l0 l1 ((l1.length : Int) == 0)) else (dialtoneref24_Blame.j0 k l0 l1 true)) = some r := H
  have A4 := Aside0.mk A40
  clear A40
  by_cases c5 : t296 = true
  ·subst c5
   have H1 : (dialtoneref24_Blame.j0 k l0 l1 ((l1.length : Int) == 0)) = some r := by rw [if_pos rfl] at H; exact H
   clear H
   have H := H1
   clear H1
   have H' := Aside0.mk H
   clear H
   go_wp2_with (first | (go_at_call 34; (with_reducible refine (dialtoneref24_holders.calls k _ _ l0 true _ ?side1 ?side2 A4.out).mono ?_); (case side1 => repeat (first | exact (Kd.C_below HR0.out HB.out) | (with_reducible refine Kd.C_alloc ?_ _) | (with_reducible refine Kd.C_drewN ?_ _) | (with_reducible refine Kd.C_drew ?_))); (case side2 => exact HC0.out); rintro e w' ⟨rfl, ⟨nd, rfl⟩⟩; (try first | exact ⟨rfl, _, World.drewN_drewN _ _ _⟩ | exact ⟨rfl, _, Eq.trans (World.drewN_drewN _ _ _) (congrArg (World.drewN _) (Nat.add_assoc _ _ _))⟩)))
   repeat (go_quiet (first | (go_at_call 34; (with_reducible refine (dialtoneref24_holders.calls k _ _ l0 true _ ?side1 ?side2 A4.out).mono ?_); (case side1 => repeat (first | exact (Kd.C_below HR0.out HB.out) | (with_reducible refine Kd.C_alloc ?_ _) | (with_reducible refine Kd.C_drewN ?_ _) | (with_reducible refine Kd.C_drew ?_))); (case side2 => exact HC0.out); rintro e w' ⟨rfl, ⟨nd, rfl⟩⟩; (try first | exact ⟨rfl, _, World.drewN_drewN _ _ _⟩ | exact ⟨rfl, _, Eq.trans (World.drewN_drewN _ _ _) (congrArg (World.drewN _) (Nat.add_assoc _ _ _))⟩))); try go_wp2_with (first | (go_at_call 34; (with_reducible refine (dialtoneref24_holders.calls k _ _ l0 true _ ?side1 ?side2 A4.out).mono ?_); (case side1 => repeat (first | exact (Kd.C_below HR0.out HB.out) | (with_reducible refine Kd.C_alloc ?_ _) | (with_reducible refine Kd.C_drewN ?_ _) | (with_reducible refine Kd.C_drew ?_))); (case side2 => exact HC0.out); rintro e w' ⟨rfl, ⟨nd, rfl⟩⟩; (try first | exact ⟨rfl, _, World.drewN_drewN _ _ _⟩ | exact ⟨rfl, _, Eq.trans (World.drewN_drewN _ _ _) (congrArg (World.drewN _) (Nat.add_assoc _ _ _))⟩))))
   go_meet
   case rel => exact ⟨_, (((l1.length : Int) == 0)), (by first | rfl | (simp; done) | (simp [*]; done)), H', ⟨by first | omega | exact Nat.le_refl _⟩, ⟨by repeat (first | (with_reducible first | exact HB.out | apply below_alloc | apply pw_below_drewN | apply below_drew1) | exact HB.out)⟩⟩
  ·replace c5 := Bool.eq_false_iff.mpr c5
   subst c5
   have H1 : (dialtoneref24_Blame.j0 k l0 l1 true) = some r := by rw [if_neg (show ¬ (false = true) by decide)] at H; exact H
   clear H
   have H := H1
   clear H1
   have H' := Aside0.mk H
   clear H
   go_wp2_with (first | (go_at_call 34; (with_reducible refine (dialtoneref24_holders.calls k _ _ l0 false _ ?side1 ?side2 A4.out).mono ?_); (case side1 => repeat (first | exact (Kd.C_below HR0.out HB.out) | (with_reducible refine Kd.C_alloc ?_ _) | (with_reducible refine Kd.C_drewN ?_ _) | (with_reducible refine Kd.C_drew ?_))); (case side2 => exact HC0.out); rintro e w' ⟨rfl, ⟨nd, rfl⟩⟩; (try first | exact ⟨rfl, _, World.drewN_drewN _ _ _⟩ | exact ⟨rfl, _, Eq.trans (World.drewN_drewN _ _ _) (congrArg (World.drewN _) (Nat.add_assoc _ _ _))⟩)))
   repeat (go_quiet (first | (go_at_call 34; (with_reducible refine (dialtoneref24_holders.calls k _ _ l0 false _ ?side1 ?side2 A4.out).mono ?_); (case side1 => repeat (first | exact (Kd.C_below HR0.out HB.out) | (with_reducible refine Kd.C_alloc ?_ _) | (with_reducible refine Kd.C_drewN ?_ _) | (with_reducible refine Kd.C_drew ?_))); (case side2 => exact HC0.out); rintro e w' ⟨rfl, ⟨nd, rfl⟩⟩; (try first | exact ⟨rfl, _, World.drewN_drewN _ _ _⟩ | exact ⟨rfl, _, Eq.trans (World.drewN_drewN _ _ _) (congrArg (World.drewN _) (Nat.add_assoc _ _ _))⟩))); try go_wp2_with (first | (go_at_call 34; (with_reducible refine (dialtoneref24_holders.calls k _ _ l0 false _ ?side1 ?side2 A4.out).mono ?_); (case side1 => repeat (first | exact (Kd.C_below HR0.out HB.out) | (with_reducible refine Kd.C_alloc ?_ _) | (with_reducible refine Kd.C_drewN ?_ _) | (with_reducible refine Kd.C_drew ?_))); (case side2 => exact HC0.out); rintro e w' ⟨rfl, ⟨nd, rfl⟩⟩; (try first | exact ⟨rfl, _, World.drewN_drewN _ _ _⟩ | exact ⟨rfl, _, Eq.trans (World.drewN_drewN _ _ _) (congrArg (World.drewN _) (Nat.add_assoc _ _ _))⟩))))
   go_meet
   case rel => exact ⟨_, (true), (by first | rfl | (simp; done) | (simp [*]; done)), H', ⟨by first | omega | exact Nat.le_refl _⟩, ⟨by repeat (first | (with_reducible first | exact HB.out | apply below_alloc | apply pw_below_drewN | apply below_drew1) | exact HB.out)⟩⟩
 case rest =>
  clear HC3
  try clear c1
  try clear c2
  try clear p2
  try clear c5
  obtain ⟨kq, x14_2, rfl, HA, HJ2, HB⟩ := hcut
  cases kq with
  | zero => exact absurd HA.out (by simp [dialtoneref24_Blame.j0])
  | succ kj2 =>
   have H := HA.out
   clear HA
   simp only [dialtoneref24_Blame.j0] at H
   by_cases c6 : x14_2 = true
   ·subst c6
    have H1 : (some (-2)) = some r := by rw [if_pos rfl] at H; exact H
    clear H
    have H := H1
    clear H1
    obtain rfl := Option.some.inj H
    go_wp2
    repeat (go_quiet (fail); try go_wp2)
    go_ret
    exact ⟨by first | rfl | (simp [errW_none, errW_some] <;> rfl) | (simp [*, errW_none, errW_some] <;> rfl), by repeat (first | (with_reducible first | exact HB.out | apply below_alloc | apply pw_below_drewN | apply below_drew1) | exact HB.out)⟩
   ·replace c6 := Bool.eq_false_iff.mpr c6
    subst c6
    have H1 : (dialtoneref24_Blame.l0 kj2 l0 l1 0) = some r := by rw [if_neg (show ¬ (false = true) by decide)] at H; exact H
    clear H
    have H := H1
    clear H1
    have H' := Aside0.mk H
    clear H
    go_wp2
    repeat (go_quiet (fail); try go_wp2)
    go_loopg [5] kj2 (fun kq v5 w' => ∃ (x5_2 : Int), v5 = .int .i64 x5_2 ∧ Aside0 (dialtoneref24_Blame.l0 kq l0 l1 x5_2 = some r) ∧ Aside0 (kq ≤ kj2) ∧ Aside0 (Below w.heap.size w w'))
    case atStart => exact ⟨(0), (by first | rfl | (simp; done) | (simp [*]; done)), H', ⟨Nat.le_refl _⟩, ⟨by repeat (first | (with_reducible first | exact HB.out | apply below_alloc | apply pw_below_drewN | apply below_drew1) | exact HB.out)⟩⟩
    case round =>
     clear H'
     try clear c1
     try clear c2
     try clear p2
     try clear c5
     try clear c6
     try clear p2
     obtain ⟨x5_2, rfl, HA, HK2, HB⟩ := hrel
     cases gk with
     | zero => exact absurd HA.out (by simp [dialtoneref24_Blame.l0])
     | succ k2 =>
      have H := HA.out
      clear HA
      simp only [dialtoneref24_Blame.l0] at H
      by_cases c7 : x5_2 < (l1.length : Int)
      ·rw [if_pos c7] at H
       have c7b0 : decide (x5_2 < (l1.length : Int)) = true := decide_eq_true c7
       clear c7
       by_cases c8 : 0 ≤ x5_2
       ·rw [if_pos c8] at H
        have c8b0 : decide (0 ≤ x5_2) = true := decide_eq_true c8
        clear c8
        have HC9 := Aside0.mk H
        clear H
        have p297 : 0 ≤ (x5_2 : Int) := of_decide_eq_true (by first | (with_reducible assumption) | assumption)
        have q297 : x5_2 < (l1.length : Int) := of_decide_eq_true (by first | (with_reducible assumption) | assumption)
        obtain ⟨ad297, e297, hx297_0, hx297_1⟩ := at_T40 HR1.out x5_2 p297 q297
        cases e297
        replace hx297_0 := (HB.out.cell (World.block_lt_of_cell? w _ hx297_0)).trans hx297_0
        replace hx297_1 := (HB.out.cell (World.block_lt_of_cell? w _ hx297_1)).trans hx297_1
        replace p297 := eq_true p297
        replace q297 := eq_true q297
        go_upto_region 7 with (first | ((with_reducible refine gate_dst (N := 6) rfl ?_); (try (refine gate_guard (by rfl) ?_; dsimp only)); refine box_event ?hg (N := 6) ?hd (cs := #[.int .i64 0, .int .i64 0]) (t := 40) ?hr ?_; (case hd => rfl); (case hg => rfl); (case hr => first | (go_simp; done) | (go_simp; rfl)); intro gb298 hg w10 hbox hb; have n0_ := Aside0.mk (below_step (by repeat (first | (with_reducible first | exact HB.out | apply below_alloc | apply pw_below_drewN | apply below_drew1) | exact HB.out)) hb); have n1_ := Aside0.mk (hbox); have n2_ := Aside0.mk ((by rw [hg]; exact (below_size (by repeat (first | (with_reducible first | exact HB.out | apply below_alloc | apply pw_below_drewN | apply below_drew1) | exact HB.out))) : w.heap.size ≤ gb298)); have n3_ := Aside0.mk ((by rw [hg]; exact (below_size (by repeat (first | (with_reducible first | exact HB.out | apply below_alloc | apply pw_below_drewN | apply below_drew1) | exact HB.out))) : w.heap.size ≤ gb298)); clear HB; have HB := n0_; have BK298 := n1_; have GW298 := n2_; have GE298 := n3_; clear n0_ n1_ n2_ n3_; clear hb hbox hg; have hcz11_0 : w10.cell? ⟨gb298, 0, none⟩ = some (.int .i64 0) := (blk_cell BK298.out 0).trans rfl; have hcz11_1 : w10.cell? ⟨gb298, 1, none⟩ = some (.int .i64 0) := (blk_cell BK298.out 1).trans rfl; have hfz11_0 := blk_frozen BK298.out 0; have hfz11_1 := blk_frozen BK298.out 1))
        repeat (go_quiet (first | ((with_reducible refine gate_dst (N := 6) rfl ?_); (try (refine gate_guard (by rfl) ?_; dsimp only)); refine box_event ?hg (N := 6) ?hd (cs := #[.int .i64 0, .int .i64 0]) (t := 40) ?hr ?_; (case hd => rfl); (case hg => rfl); (case hr => first | (go_simp; done) | (go_simp; rfl)); intro gb298 hg w10 hbox hb; have n0_ := Aside0.mk (below_step (by repeat (first | (with_reducible first | exact HB.out | apply below_alloc | apply pw_below_drewN | apply below_drew1) | exact HB.out)) hb); have n1_ := Aside0.mk (hbox); have n2_ := Aside0.mk ((by rw [hg]; exact (below_size (by repeat (first | (with_reducible first | exact HB.out | apply below_alloc | apply pw_below_drewN | apply below_drew1) | exact HB.out))) : w.heap.size ≤ gb298)); have n3_ := Aside0.mk ((by rw [hg]; exact (below_size (by repeat (first | (with_reducible first | exact HB.out | apply below_alloc | apply pw_below_drewN | apply below_drew1) | exact HB.out))) : w.heap.size ≤ gb298)); clear HB; have HB := n0_; have BK298 := n1_; have GW298 := n2_; have GE298 := n3_; clear n0_ n1_ n2_ n3_; clear hb hbox hg; have hcz11_0 : w10.cell? ⟨gb298, 0, none⟩ = some (.int .i64 0) := (blk_cell BK298.out 0).trans rfl; have hcz11_1 : w10.cell? ⟨gb298, 1, none⟩ = some (.int .i64 0) := (blk_cell BK298.out 1).trans rfl; have hfz11_0 := blk_frozen BK298.out 0; have hfz11_1 := blk_frozen BK298.out 1)); go_upto_region 7 with (first | ((with_reducible refine gate_dst (N := 6) rfl ?_); (try (refine gate_guard (by rfl) ?_; dsimp only)); refine box_event ?hg (N := 6) ?hd (cs := #[.int .i64 0, .int .i64 0]) (t := 40) ?hr ?_; (case hd => rfl); (case hg => rfl); (case hr => first | (go_simp; done) | (go_simp; rfl)); intro gb298 hg w10 hbox hb; have n0_ := Aside0.mk (below_step (by repeat (first | (with_reducible first | exact HB.out | apply below_alloc | apply pw_below_drewN | apply below_drew1) | exact HB.out)) hb); have n1_ := Aside0.mk (hbox); have n2_ := Aside0.mk ((by rw [hg]; exact (below_size (by repeat (first | (with_reducible first | exact HB.out | apply below_alloc | apply pw_below_drewN | apply below_drew1) | exact HB.out))) : w.heap.size ≤ gb298)); have n3_ := Aside0.mk ((by rw [hg]; exact (below_size (by repeat (first | (with_reducible first | exact HB.out | apply below_alloc | apply pw_below_drewN | apply below_drew1) | exact HB.out))) : w.heap.size ≤ gb298)); clear HB; have HB := n0_; have BK298 := n1_; have GW298 := n2_; have GE298 := n3_; clear n0_ n1_ n2_ n3_; clear hb hbox hg; have hcz11_0 : w10.cell? ⟨gb298, 0, none⟩ = some (.int .i64 0) := (blk_cell BK298.out 0).trans rfl; have hcz11_1 : w10.cell? ⟨gb298, 1, none⟩ = some (.int .i64 0) := (blk_cell BK298.out 1).trans rfl; have hfz11_0 := blk_frozen BK298.out 0; have hfz11_1 := blk_frozen BK298.out 1)))
        (try simp only [Act.put, List.setIfInBounds_toArray, List.set_cons_zero, List.set_cons_succ])
        go_cut [37] (fun v37 wc => ∃ (kq : Nat) (x37_8 : Bool), v37 = .bool x37_8 ∧ Aside0 (dialtoneref24_Blame.j2 kq l0 l1 x5_2 x37_8 ((rd_T40 l1 x5_2).f0) ((rd_T40 l1 x5_2).f1) = some r) ∧ Aside0 (kq ≤ k2) ∧ Aside0 (wc.heap[gb298]? = some (.cells #[.int .i64 ((rd_T40 l1 x5_2).f0), .int .i64 ((rd_T40 l1 x5_2).f1)] 40 (0, 0))) ∧ Aside0 (Below w.heap.size w wc))
        case first =>
         have H := HC9.out
         clear HC9
         replace H := Option.bind_eq_some_iff.mp H
         obtain ⟨t299, A120, H⟩ := H
         replace H : (if t299 = true then ((dialtoneref24_in.f ((rd_T40 l1 x5_2).f1) 0 (wrap64 ((l0.length : Int) - 1))).bind fun t300 => (dialtoneref24_Blame.j2 k2 l0 l1 x5_2 (!t300) ((rd_T40 l1 x5_2).f0) ((rd_T40 l1 x5_2).f1))) else (dialtoneref24_Blame.j2 k2 l0 l1 x5_2 true ((rd_T40 l1 x5_2).f0) ((rd_T40 l1 x5_2).f1))) = some r := H
         have A12 := Aside0.mk A120
         clear A120
         by_cases c13 : t299 = true
         ·subst c13
          have H1 : ((dialtoneref24_in.f ((rd_T40 l1 x5_2).f1) 0 (wrap64 ((l0.length : Int) - 1))).bind fun t300 => (dialtoneref24_Blame.j2 k2 l0 l1 x5_2 (!t300) ((rd_T40 l1 x5_2).f0) ((rd_T40 l1 x5_2).f1))) = some r := by rw [if_pos rfl] at H; exact H
          clear H
          have H := H1
          clear H1
          replace H := Option.bind_eq_some_iff.mp H
          obtain ⟨t300, A140, H⟩ := H
          replace H : (dialtoneref24_Blame.j2 k2 l0 l1 x5_2 (!t300) ((rd_T40 l1 x5_2).f0) ((rd_T40 l1 x5_2).f1)) = some r := H
          have A14 := Aside0.mk A140
          clear A140
          have H' := Aside0.mk H
          clear H
          have hcz15_0 : w10.cell? ⟨gb298, 0, none⟩ = some (.int .i64 0) := (blk_cell BK298.out 0).trans rfl
          have hcz15_1 : w10.cell? ⟨gb298, 1, none⟩ = some (.int .i64 0) := (blk_cell BK298.out 1).trans rfl
          have hfz15_0 := blk_frozen BK298.out 0
          have hfz15_1 := blk_frozen BK298.out 1
          go_wp2_with (first | (go_at_call 35; (with_reducible refine (dialtoneref24_in.calls ((rd_T40 l1 x5_2).f0) 0 7 true _ A12.out).mono ?_); rintro e w' ⟨rfl, ⟨nd, rfl⟩⟩; (try first | exact ⟨rfl, _, World.drewN_drewN _ _ _⟩ | exact ⟨rfl, _, Eq.trans (World.drewN_drewN _ _ _) (congrArg (World.drewN _) (Nat.add_assoc _ _ _))⟩)) | (go_at_call 35; (with_reducible refine (dialtoneref24_in.calls ((rd_T40 l1 x5_2).f1) 0 (wrap64 ((l0.length : Int) - 1)) t300 _ A14.out).mono ?_); rintro e w' ⟨rfl, ⟨nd, rfl⟩⟩; (try first | exact ⟨rfl, _, World.drewN_drewN _ _ _⟩ | exact ⟨rfl, _, Eq.trans (World.drewN_drewN _ _ _) (congrArg (World.drewN _) (Nat.add_assoc _ _ _))⟩)))
          repeat (go_quiet (first | (go_at_call 35; (with_reducible refine (dialtoneref24_in.calls ((rd_T40 l1 x5_2).f0) 0 7 true _ A12.out).mono ?_); rintro e w' ⟨rfl, ⟨nd, rfl⟩⟩; (try first | exact ⟨rfl, _, World.drewN_drewN _ _ _⟩ | exact ⟨rfl, _, Eq.trans (World.drewN_drewN _ _ _) (congrArg (World.drewN _) (Nat.add_assoc _ _ _))⟩)) | (go_at_call 35; (with_reducible refine (dialtoneref24_in.calls ((rd_T40 l1 x5_2).f1) 0 (wrap64 ((l0.length : Int) - 1)) t300 _ A14.out).mono ?_); rintro e w' ⟨rfl, ⟨nd, rfl⟩⟩; (try first | exact ⟨rfl, _, World.drewN_drewN _ _ _⟩ | exact ⟨rfl, _, Eq.trans (World.drewN_drewN _ _ _) (congrArg (World.drewN _) (Nat.add_assoc _ _ _))⟩))); try go_wp2_with (first | (go_at_call 35; (with_reducible refine (dialtoneref24_in.calls ((rd_T40 l1 x5_2).f0) 0 7 true _ A12.out).mono ?_); rintro e w' ⟨rfl, ⟨nd, rfl⟩⟩; (try first | exact ⟨rfl, _, World.drewN_drewN _ _ _⟩ | exact ⟨rfl, _, Eq.trans (World.drewN_drewN _ _ _) (congrArg (World.drewN _) (Nat.add_assoc _ _ _))⟩)) | (go_at_call 35; (with_reducible refine (dialtoneref24_in.calls ((rd_T40 l1 x5_2).f1) 0 (wrap64 ((l0.length : Int) - 1)) t300 _ A14.out).mono ?_); rintro e w' ⟨rfl, ⟨nd, rfl⟩⟩; (try first | exact ⟨rfl, _, World.drewN_drewN _ _ _⟩ | exact ⟨rfl, _, Eq.trans (World.drewN_drewN _ _ _) (congrArg (World.drewN _) (Nat.add_assoc _ _ _))⟩))))
          go_meet
          case rel => exact ⟨_, (!t300), (by first | rfl | (simp; done) | (simp [*]; done)), H', ⟨by have := HJ2.out; have := HK2.out; first | omega | exact Nat.le_refl _⟩, ⟨by (with_reducible repeat (first | refine blk_drewN ?_ _ | refine blk_drew ?_ | refine blk_alloc ?_ _)); refine blk_put (cs := #[.int .i64 ((rd_T40 l1 x5_2).f0), .int .i64 0]) ?_ 1 _ rfl; (with_reducible repeat (first | refine blk_drewN ?_ _ | refine blk_drew ?_ | refine blk_alloc ?_ _)); refine blk_put (cs := #[.int .i64 0, .int .i64 0]) ?_ 0 _ rfl; (with_reducible repeat (first | refine blk_drewN ?_ _ | refine blk_drew ?_ | refine blk_alloc ?_ _)); exact BK298.out⟩, ⟨by repeat (first | (with_reducible first | exact HB.out | apply below_alloc | apply pw_below_drewN | apply below_drew1 | refine below_set ?_ GE298.out) | exact HB.out)⟩⟩
         ·replace c13 := Bool.eq_false_iff.mpr c13
          subst c13
          have H1 : (dialtoneref24_Blame.j2 k2 l0 l1 x5_2 true ((rd_T40 l1 x5_2).f0) ((rd_T40 l1 x5_2).f1)) = some r := by rw [if_neg (show ¬ (false = true) by decide)] at H; exact H
          clear H
          have H := H1
          clear H1
          have H' := Aside0.mk H
          clear H
          have hcz16_0 : w10.cell? ⟨gb298, 0, none⟩ = some (.int .i64 0) := (blk_cell BK298.out 0).trans rfl
          have hcz16_1 : w10.cell? ⟨gb298, 1, none⟩ = some (.int .i64 0) := (blk_cell BK298.out 1).trans rfl
          have hfz16_0 := blk_frozen BK298.out 0
          have hfz16_1 := blk_frozen BK298.out 1
          go_wp2_with (first | (go_at_call 35; (with_reducible refine (dialtoneref24_in.calls ((rd_T40 l1 x5_2).f0) 0 7 false _ A12.out).mono ?_); rintro e w' ⟨rfl, ⟨nd, rfl⟩⟩; (try first | exact ⟨rfl, _, World.drewN_drewN _ _ _⟩ | exact ⟨rfl, _, Eq.trans (World.drewN_drewN _ _ _) (congrArg (World.drewN _) (Nat.add_assoc _ _ _))⟩)))
          repeat (go_quiet (first | (go_at_call 35; (with_reducible refine (dialtoneref24_in.calls ((rd_T40 l1 x5_2).f0) 0 7 false _ A12.out).mono ?_); rintro e w' ⟨rfl, ⟨nd, rfl⟩⟩; (try first | exact ⟨rfl, _, World.drewN_drewN _ _ _⟩ | exact ⟨rfl, _, Eq.trans (World.drewN_drewN _ _ _) (congrArg (World.drewN _) (Nat.add_assoc _ _ _))⟩))); try go_wp2_with (first | (go_at_call 35; (with_reducible refine (dialtoneref24_in.calls ((rd_T40 l1 x5_2).f0) 0 7 false _ A12.out).mono ?_); rintro e w' ⟨rfl, ⟨nd, rfl⟩⟩; (try first | exact ⟨rfl, _, World.drewN_drewN _ _ _⟩ | exact ⟨rfl, _, Eq.trans (World.drewN_drewN _ _ _) (congrArg (World.drewN _) (Nat.add_assoc _ _ _))⟩))))
          go_meet
          case rel => exact ⟨_, (true), (by first | rfl | (simp; done) | (simp [*]; done)), H', ⟨by have := HJ2.out; have := HK2.out; first | omega | exact Nat.le_refl _⟩, ⟨by (with_reducible repeat (first | refine blk_drewN ?_ _ | refine blk_drew ?_ | refine blk_alloc ?_ _)); refine blk_put (cs := #[.int .i64 ((rd_T40 l1 x5_2).f0), .int .i64 0]) ?_ 1 _ rfl; (with_reducible repeat (first | refine blk_drewN ?_ _ | refine blk_drew ?_ | refine blk_alloc ?_ _)); refine blk_put (cs := #[.int .i64 0, .int .i64 0]) ?_ 0 _ rfl; (with_reducible repeat (first | refine blk_drewN ?_ _ | refine blk_drew ?_ | refine blk_alloc ?_ _)); exact BK298.out⟩, ⟨by repeat (first | (with_reducible first | exact HB.out | apply below_alloc | apply pw_below_drewN | apply below_drew1 | refine below_set ?_ GE298.out) | exact HB.out)⟩⟩
        case rest =>
         clear HC9
         try clear c1
         try clear c2
         try clear p2
         try clear q2
         try clear hx2
         try clear c5
         try clear c6
         try clear p6
         try clear c7
         try clear c7b0
         try clear c8
         try clear c8b0
         try clear c13
         try clear hcz11_0
         try clear hcz11_1
         try clear hcz15_0
         try clear hcz15_1
         try clear hcz16_0
         try clear hcz16_1
         try clear hfz11_0
         try clear hfz11_1
         try clear hfz15_0
         try clear hfz15_1
         try clear hfz16_0
         try clear hfz16_1
         try clear hx297_0
         try clear hx297_1
         try clear p2
         try clear p297
         try clear q297
         obtain ⟨kq, x37_8, rfl, HA, HJ8, BK298, HB⟩ := hcut
         cases kq with
         | zero => exact absurd HA.out (by simp [dialtoneref24_Blame.j2])
         | succ kj8 =>
          have H := HA.out
          clear HA
          simp only [dialtoneref24_Blame.j2] at H
          by_cases c17 : x37_8 = true
          ·subst c17
           have H1 : (some x5_2) = some r := by rw [if_pos rfl] at H; exact H
           clear H
           have H := H1
           clear H1
           obtain rfl := Option.some.inj H
           go_wp2
           repeat (go_quiet (fail); try go_wp2)
           go_ret
           exact ⟨by first | rfl | (simp [errW_none, errW_some] <;> rfl) | (simp [*, errW_none, errW_some] <;> rfl), by repeat (first | (with_reducible first | exact HB.out | apply below_alloc | apply pw_below_drewN | apply below_drew1 | refine below_set ?_ GE298.out) | exact HB.out)⟩
          ·replace c17 := Bool.eq_false_iff.mpr c17
           subst c17
           have H1 : (if x5_2 > 0 then (if 0 ≤ (wrap64 (x5_2 - 1)) then (if (wrap64 (x5_2 - 1)) < (l1.length : Int) then (if 0 ≤ ((rd_T40 l1 (wrap64 (x5_2 - 1))).f1) then (if ((rd_T40 l1 (wrap64 (x5_2 - 1))).f1) < (l0.length : Int) then (if ((rd_T40 l1 x5_2).f0) = (rd l0 ((rd_T40 l1 (wrap64 (x5_2 - 1))).f1)) then (dialtoneref24_Blame.j3 kj8 l0 l1 x5_2 (decide (((rd_T40 l1 x5_2).f1) < ((rd_T40 l1 (wrap64 (x5_2 - 1))).f1))) ((rd_T40 l1 x5_2).f0) ((rd_T40 l1 x5_2).f1)) else (dialtoneref24_Blame.j3 kj8 l0 l1 x5_2 true ((rd_T40 l1 x5_2).f0) ((rd_T40 l1 x5_2).f1))) else (none)) else (none)) else (none)) else (none)) else (dialtoneref24_Blame.j3 kj8 l0 l1 x5_2 false ((rd_T40 l1 x5_2).f0) ((rd_T40 l1 x5_2).f1))) = some r := by rw [if_neg (show ¬ (false = true) by decide)] at H; exact H
           clear H
           have H := H1
           clear H1
           have HC18 := Aside0.mk H
           clear H
           go_upto_region 9 with (fail)
           repeat (go_quiet (fail); go_upto_region 9 with (fail))
           go_cut [65] (fun v65 wc => ∃ (kq : Nat) (x65_17 : Bool), v65 = .bool x65_17 ∧ Aside0 (dialtoneref24_Blame.j3 kq l0 l1 x5_2 x65_17 ((rd_T40 l1 x5_2).f0) ((rd_T40 l1 x5_2).f1) = some r) ∧ Aside0 (kq ≤ kj8) ∧ Aside0 (wc.heap[gb298]? = some (.cells #[.int .i64 ((rd_T40 l1 x5_2).f0), .int .i64 ((rd_T40 l1 x5_2).f1)] 40 (0, 0))) ∧ Aside0 (Below w.heap.size w wc))
           case first =>
            have H := HC18.out
            clear HC18
            by_cases c19 : x5_2 > 0
            ·rw [if_pos c19] at H
             have c19b0 : decide (0 < x5_2) = true := decide_eq_true c19
             clear c19
             (first | rw [c19b0] | (simp only [i64_w, i32_w]; rw [c19b0]) | rw [c19b1] | skip)
             obtain ⟨ji20, hji20⟩ : ∃ j_ : Int, (wrap64 (x5_2 - 1)) = j_ := ⟨_, rfl⟩
             replace H : (if 0 ≤ (ji20) then (if (ji20) < (l1.length : Int) then (if 0 ≤ ((rd_T40 l1 (ji20)).f1) then (if ((rd_T40 l1 (ji20)).f1) < (l0.length : Int) then (if ((rd_T40 l1 x5_2).f0) = (rd l0 ((rd_T40 l1 (ji20)).f1)) then (dialtoneref24_Blame.j3 kj8 l0 l1 x5_2 (decide (((rd_T40 l1 x5_2).f1) < ((rd_T40 l1 (ji20)).f1))) ((rd_T40 l1 x5_2).f0) ((rd_T40 l1 x5_2).f1)) else (dialtoneref24_Blame.j3 kj8 l0 l1 x5_2 true ((rd_T40 l1 x5_2).f0) ((rd_T40 l1 x5_2).f1))) else (none)) else (none)) else (none)) else (none)) = some r := by first | (rw [hji20] at H; exact H) | (simp only [hji20] at H ⊢; exact H)
             have hji20w : (IntKind.i64.wrap (x5_2 - 1)) = ji20 := (i64_w _).trans hji20
             by_cases c21 : 0 ≤ (ji20)
             ·rw [if_pos c21] at H
              have c21b0 : decide (0 ≤ (ji20)) = true := decide_eq_true c21
              clear c21
              by_cases c22 : (ji20) < (l1.length : Int)
              ·rw [if_pos c22] at H
               have c22b0 : decide ((ji20) < (l1.length : Int)) = true := decide_eq_true c22
               clear c22
               by_cases c23 : 0 ≤ ((rd_T40 l1 (ji20)).f1)
               ·rw [if_pos c23] at H
                have c23b0 : decide (0 ≤ ((rd_T40 l1 (ji20)).f1)) = true := decide_eq_true c23
                clear c23
                by_cases c24 : ((rd_T40 l1 (ji20)).f1) < (l0.length : Int)
                ·rw [if_pos c24] at H
                 have c24b0 : decide (((rd_T40 l1 (ji20)).f1) < (l0.length : Int)) = true := decide_eq_true c24
                 clear c24
                 by_cases c25 : ((rd_T40 l1 x5_2).f0) = (rd l0 ((rd_T40 l1 (ji20)).f1))
                 ·rw [if_pos c25] at H
                  have c25b0 : (((rd_T40 l1 x5_2).f0) == (rd l0 ((rd_T40 l1 (ji20)).f1))) = true := beq_iff_eq.mpr c25
                  have c25b1 : (((rd_T40 l1 x5_2).f0) != (rd l0 ((rd_T40 l1 (ji20)).f1))) = false := bne_eq_false_iff_eq.mpr c25
                  clear c25
                  have H' := Aside0.mk H
                  clear H
                  have hcz26_0 : wc.cell? ⟨gb298, 0, none⟩ = some (.int .i64 ((rd_T40 l1 x5_2).f0)) := (blk_cell BK298.out 0).trans rfl
                  have hcz26_1 : wc.cell? ⟨gb298, 1, none⟩ = some (.int .i64 ((rd_T40 l1 x5_2).f1)) := (blk_cell BK298.out 1).trans rfl
                  have hfz26_0 := blk_frozen BK298.out 0
                  have hfz26_1 := blk_frozen BK298.out 1
                  have p301 : 0 ≤ ((ji20) : Int) := of_decide_eq_true (by first | (with_reducible assumption) | assumption)
                  have q301 : (ji20) < (l1.length : Int) := of_decide_eq_true (by first | (with_reducible assumption) | assumption)
                  obtain ⟨ad301, e301, hx301_0, hx301_1⟩ := at_T40 HR1.out (ji20) p301 q301
                  obtain rfl : ad297 = ad301 := (by injection e301)
                  replace hx301_0 := (HB.out.cell (World.block_lt_of_cell? w _ hx301_0)).trans hx301_0
                  replace hx301_1 := (HB.out.cell (World.block_lt_of_cell? w _ hx301_1)).trans hx301_1
                  replace p301 := eq_true p301
                  replace q301 := eq_true q301
                  have p302 : 0 ≤ (((rd_T40 l1 (ji20)).f1) : Int) := of_decide_eq_true (by first | (with_reducible assumption) | assumption)
                  have q302 : ((rd_T40 l1 (ji20)).f1) < (l0.length : Int) := of_decide_eq_true (by first | (with_reducible assumption) | assumption)
                  obtain ⟨ad302, e302, hx302_0⟩ := Kd.at_int HR0.out ((rd_T40 l1 (ji20)).f1) p302 q302
                  cases e302
                  replace hx302_0 := (HB.out.cell (World.block_lt_of_cell? w _ hx302_0)).trans hx302_0
                  replace p302 := eq_true p302
                  replace q302 := eq_true q302
                  have p303 : 0 ≤ ((ji20) : Int) := of_decide_eq_true (by first | (with_reducible assumption) | assumption)
                  have q303 : (ji20) < (l1.length : Int) := of_decide_eq_true (by first | (with_reducible assumption) | assumption)
                  obtain ⟨ad303, e303, hx303_0, hx303_1⟩ := at_T40 HR1.out (ji20) p303 q303
                  obtain rfl : ad297 = ad303 := (by injection e303)
                  replace hx303_0 := (HB.out.cell (World.block_lt_of_cell? w _ hx303_0)).trans hx303_0
                  replace hx303_1 := (HB.out.cell (World.block_lt_of_cell? w _ hx303_1)).trans hx303_1
                  replace p303 := eq_true p303
                  replace q303 := eq_true q303
                  go_wp2
                  repeat (go_quiet (fail); try go_wp2)
                  go_meet
                  case rel => exact ⟨_, (decide (((rd_T40 l1 x5_2).f1) < ((rd_T40 l1 (ji20)).f1))), (by first | rfl | (simp; done) | (simp only [← hji20] <;> (first | rfl | simp)) | (simp [*]; done)), H', ⟨by have := HJ2.out; have := HK2.out; have := HJ8.out; first | omega | exact Nat.le_refl _⟩, ⟨by (with_reducible repeat (first | refine blk_drewN ?_ _ | refine blk_drew ?_ | refine blk_alloc ?_ _)); exact BK298.out⟩, ⟨by repeat (first | (with_reducible first | exact HB.out | apply below_alloc | apply pw_below_drewN | apply below_drew1 | refine below_set ?_ GE298.out) | exact HB.out)⟩⟩
                 ·rw [if_neg c25] at H
                  have c25b0 : (((rd_T40 l1 x5_2).f0) == (rd l0 ((rd_T40 l1 (ji20)).f1))) = false := beq_eq_false_iff_ne.mpr c25
                  have c25b1 : (((rd_T40 l1 x5_2).f0) != (rd l0 ((rd_T40 l1 (ji20)).f1))) = true := bne_iff_ne.mpr c25
                  have H' := Aside0.mk H
                  clear H
                  have hcz27_0 : wc.cell? ⟨gb298, 0, none⟩ = some (.int .i64 ((rd_T40 l1 x5_2).f0)) := (blk_cell BK298.out 0).trans rfl
                  have hcz27_1 : wc.cell? ⟨gb298, 1, none⟩ = some (.int .i64 ((rd_T40 l1 x5_2).f1)) := (blk_cell BK298.out 1).trans rfl
                  have hfz27_0 := blk_frozen BK298.out 0
                  have hfz27_1 := blk_frozen BK298.out 1
                  have p301 : 0 ≤ ((ji20) : Int) := of_decide_eq_true (by first | (with_reducible assumption) | assumption)
                  have q301 : (ji20) < (l1.length : Int) := of_decide_eq_true (by first | (with_reducible assumption) | assumption)
                  obtain ⟨ad301, e301, hx301_0, hx301_1⟩ := at_T40 HR1.out (ji20) p301 q301
                  obtain rfl : ad297 = ad301 := (by injection e301)
                  replace hx301_0 := (HB.out.cell (World.block_lt_of_cell? w _ hx301_0)).trans hx301_0
                  replace hx301_1 := (HB.out.cell (World.block_lt_of_cell? w _ hx301_1)).trans hx301_1
                  replace p301 := eq_true p301
                  replace q301 := eq_true q301
                  have p302 : 0 ≤ (((rd_T40 l1 (ji20)).f1) : Int) := of_decide_eq_true (by first | (with_reducible assumption) | assumption)
                  have q302 : ((rd_T40 l1 (ji20)).f1) < (l0.length : Int) := of_decide_eq_true (by first | (with_reducible assumption) | assumption)
                  obtain ⟨ad302, e302, hx302_0⟩ := Kd.at_int HR0.out ((rd_T40 l1 (ji20)).f1) p302 q302
                  cases e302
                  replace hx302_0 := (HB.out.cell (World.block_lt_of_cell? w _ hx302_0)).trans hx302_0
                  replace p302 := eq_true p302
                  replace q302 := eq_true q302
                  go_wp2
                  repeat (go_quiet (fail); try go_wp2)
                  go_meet
                  case rel => exact ⟨_, (true), (by first | rfl | (simp; done) | (simp [*]; done)), H', ⟨by have := HJ2.out; have := HK2.out; have := HJ8.out; first | omega | exact Nat.le_refl _⟩, ⟨by (with_reducible repeat (first | refine blk_drewN ?_ _ | refine blk_drew ?_ | refine blk_alloc ?_ _)); exact BK298.out⟩, ⟨by repeat (first | (with_reducible first | exact HB.out | apply below_alloc | apply pw_below_drewN | apply below_drew1 | refine below_set ?_ GE298.out) | exact HB.out)⟩⟩
                ·rw [if_neg c24] at H
                 exact absurd H (by simp)
               ·rw [if_neg c23] at H
                exact absurd H (by simp)
              ·rw [if_neg c22] at H
               exact absurd H (by simp)
             ·rw [if_neg c21] at H
              exact absurd H (by simp)
            ·rw [if_neg c19] at H
             have c19b0 : decide (0 < x5_2) = false := decide_eq_false c19
             clear c19
             (first | rw [c19b0] | (simp only [i64_w, i32_w]; rw [c19b0]) | rw [c19b1] | skip)
             have H' := Aside0.mk H
             clear H
             go_wp2
             repeat (go_quiet (fail); try go_wp2)
             go_meet
             case rel => exact ⟨_, (false), (by first | rfl | (simp; done) | (simp [*]; done)), H', ⟨by have := HJ2.out; have := HK2.out; have := HJ8.out; first | omega | exact Nat.le_refl _⟩, ⟨by (with_reducible repeat (first | refine blk_drewN ?_ _ | refine blk_drew ?_ | refine blk_alloc ?_ _)); exact BK298.out⟩, ⟨by repeat (first | (with_reducible first | exact HB.out | apply below_alloc | apply pw_below_drewN | apply below_drew1 | refine below_set ?_ GE298.out) | exact HB.out)⟩⟩
           case rest =>
            clear HC18
            try clear c1
            try clear c2
            try clear p2
            try clear q2
            try clear hx2
            try clear p3
            try clear q3
            try clear hx3
            try clear c5
            try clear c6
            try clear p6
            try clear c7
            try clear c7b0
            try clear c8
            try clear c8b0
            try clear c13
            try clear c17
            try clear c19
            try clear c19b0
            try clear c19b1
            try clear c21
            try clear c21b0
            try clear c22
            try clear c22b0
            try clear c23
            try clear c23b0
            try clear c24
            try clear c24b0
            try clear c25
            try clear c25b0
            try clear c25b1
            try clear c27
            try clear hcz11_0
            try clear hcz11_1
            try clear hcz15_0
            try clear hcz15_1
            try clear hcz16_0
            try clear hcz16_1
            try clear hcz26_0
            try clear hcz26_1
            try clear hcz27_0
            try clear hcz27_1
            try clear hfz11_0
            try clear hfz11_1
            try clear hfz15_0
            try clear hfz15_1
            try clear hfz16_0
            try clear hfz16_1
            try clear hfz26_0
            try clear hfz26_1
            try clear hfz27_0
            try clear hfz27_1
            try clear hx297_0
            try clear hx297_1
            try clear hx301_0
            try clear hx301_1
            try clear hx302_0
            try clear hx303_0
            try clear hx303_1
            try clear p2
            try clear p297
            try clear p301
            try clear p302
            try clear p303
            try clear p6
            try clear q2
            try clear q297
            try clear q301
            try clear q302
            try clear q303
            obtain ⟨kq, x65_17, rfl, HA, HJ17, BK298, HB⟩ := hcut
            cases kq with
            | zero => exact absurd HA.out (by simp [dialtoneref24_Blame.j3])
            | succ kj17 =>
             have H := HA.out
             clear HA
             simp only [dialtoneref24_Blame.j3] at H
             by_cases c28 : x65_17 = true
             ·subst c28
              have H1 : (some x5_2) = some r := by rw [if_pos rfl] at H; exact H
              clear H
              have H := H1
              clear H1
              obtain rfl := Option.some.inj H
              go_wp2
              repeat (go_quiet (fail); try go_wp2)
              go_ret
              exact ⟨by first | rfl | (simp [errW_none, errW_some] <;> rfl) | (simp [*, errW_none, errW_some] <;> rfl), by repeat (first | (with_reducible first | exact HB.out | apply below_alloc | apply pw_below_drewN | apply below_drew1 | refine below_set ?_ GE298.out) | exact HB.out)⟩
             ·replace c28 := Bool.eq_false_iff.mpr c28
              subst c28
              have H1 : (if x5_2 < (wrap64 ((l1.length : Int) - 1)) then (if 0 ≤ ((rd_T40 l1 x5_2).f1) then (if ((rd_T40 l1 x5_2).f1) < (l0.length : Int) then (if (rd l0 ((rd_T40 l1 x5_2).f1)) = ((rd_T40 l1 x5_2).f0) then (some x5_2) else (if (rd l0 ((rd_T40 l1 x5_2).f1)) = (-1) then (some x5_2) else (dialtoneref24_Blame.l0 kj17 l0 l1 (wrap64 (x5_2 + 1))))) else (none)) else (none)) else (dialtoneref24_Blame.l0 kj17 l0 l1 (wrap64 (x5_2 + 1)))) = some r := by rw [if_neg (show ¬ (false = true) by decide)] at H; exact H
              clear H
              have H := H1
              clear H1
              by_cases c29 : x5_2 < (wrap64 ((l1.length : Int) - 1))
              ·rw [if_pos c29] at H
               have c29b0 : decide (x5_2 < (wrap64 ((l1.length : Int) - 1))) = true := decide_eq_true c29
               clear c29
               by_cases c30 : 0 ≤ ((rd_T40 l1 x5_2).f1)
               ·rw [if_pos c30] at H
                have c30b0 : decide (0 ≤ ((rd_T40 l1 x5_2).f1)) = true := decide_eq_true c30
                clear c30
                by_cases c31 : ((rd_T40 l1 x5_2).f1) < (l0.length : Int)
                ·rw [if_pos c31] at H
                 have c31b0 : decide (((rd_T40 l1 x5_2).f1) < (l0.length : Int)) = true := decide_eq_true c31
                 clear c31
                 by_cases c32 : (rd l0 ((rd_T40 l1 x5_2).f1)) = ((rd_T40 l1 x5_2).f0)
                 ·rw [if_pos c32] at H
                  have c32b0 : ((rd l0 ((rd_T40 l1 x5_2).f1)) == ((rd_T40 l1 x5_2).f0)) = true := beq_iff_eq.mpr c32
                  have c32b1 : ((rd l0 ((rd_T40 l1 x5_2).f1)) != ((rd_T40 l1 x5_2).f0)) = false := bne_eq_false_iff_eq.mpr c32
                  clear c32
                  obtain rfl := Option.some.inj H
                  have hcz33_0 : wc.cell? ⟨gb298, 0, none⟩ = some (.int .i64 ((rd_T40 l1 x5_2).f0)) := (blk_cell BK298.out 0).trans rfl
                  have hcz33_1 : wc.cell? ⟨gb298, 1, none⟩ = some (.int .i64 ((rd_T40 l1 x5_2).f1)) := (blk_cell BK298.out 1).trans rfl
                  have hfz33_0 := blk_frozen BK298.out 0
                  have hfz33_1 := blk_frozen BK298.out 1
                  have p304 : 0 ≤ (((rd_T40 l1 x5_2).f1) : Int) := of_decide_eq_true (by first | (with_reducible assumption) | assumption)
                  have q304 : ((rd_T40 l1 x5_2).f1) < (l0.length : Int) := of_decide_eq_true (by first | (with_reducible assumption) | assumption)
                  obtain ⟨ad304, e304, hx304_0⟩ := Kd.at_int HR0.out ((rd_T40 l1 x5_2).f1) p304 q304
                  cases e304
                  replace hx304_0 := (HB.out.cell (World.block_lt_of_cell? w _ hx304_0)).trans hx304_0
                  replace p304 := eq_true p304
                  replace q304 := eq_true q304
                  go_wp2
                  repeat (go_quiet (fail); try go_wp2)
                  go_ret
                  exact ⟨by first | rfl | (simp [errW_none, errW_some] <;> rfl) | (simp [*, errW_none, errW_some] <;> rfl), by repeat (first | (with_reducible first | exact HB.out | apply below_alloc | apply pw_below_drewN | apply below_drew1 | refine below_set ?_ GE298.out) | exact HB.out)⟩
                 ·rw [if_neg c32] at H
                  have c32b0 : ((rd l0 ((rd_T40 l1 x5_2).f1)) == ((rd_T40 l1 x5_2).f0)) = false := beq_eq_false_iff_ne.mpr c32
                  have c32b1 : ((rd l0 ((rd_T40 l1 x5_2).f1)) != ((rd_T40 l1 x5_2).f0)) = true := bne_iff_ne.mpr c32
                  by_cases c34 : (rd l0 ((rd_T40 l1 x5_2).f1)) = (-1)
                  ·rw [if_pos c34] at H
                   have c34b0 : ((rd l0 ((rd_T40 l1 x5_2).f1)) == (-1)) = true := beq_iff_eq.mpr c34
                   have c34b1 : ((rd l0 ((rd_T40 l1 x5_2).f1)) != (-1)) = false := bne_eq_false_iff_eq.mpr c34
                   clear c34
                   obtain rfl := Option.some.inj H
                   have hcz35_0 : wc.cell? ⟨gb298, 0, none⟩ = some (.int .i64 ((rd_T40 l1 x5_2).f0)) := (blk_cell BK298.out 0).trans rfl
                   have hcz35_1 : wc.cell? ⟨gb298, 1, none⟩ = some (.int .i64 ((rd_T40 l1 x5_2).f1)) := (blk_cell BK298.out 1).trans rfl
                   have hfz35_0 := blk_frozen BK298.out 0
                   have hfz35_1 := blk_frozen BK298.out 1
                   have p304 : 0 ≤ (((rd_T40 l1 x5_2).f1) : Int) := of_decide_eq_true (by first | (with_reducible assumption) | assumption)
                   have q304 : ((rd_T40 l1 x5_2).f1) < (l0.length : Int) := of_decide_eq_true (by first | (with_reducible assumption) | assumption)
                   obtain ⟨ad304, e304, hx304_0⟩ := Kd.at_int HR0.out ((rd_T40 l1 x5_2).f1) p304 q304
                   cases e304
                   replace hx304_0 := (HB.out.cell (World.block_lt_of_cell? w _ hx304_0)).trans hx304_0
                   replace p304 := eq_true p304
                   replace q304 := eq_true q304
                   have p305 : 0 ≤ (((rd_T40 l1 x5_2).f1) : Int) := of_decide_eq_true (by first | (with_reducible assumption) | assumption)
                   have q305 : ((rd_T40 l1 x5_2).f1) < (l0.length : Int) := of_decide_eq_true (by first | (with_reducible assumption) | assumption)
                   obtain ⟨ad305, e305, hx305_0⟩ := Kd.at_int HR0.out ((rd_T40 l1 x5_2).f1) p305 q305
                   obtain rfl : ad304 = ad305 := (by injection e305)
                   replace hx305_0 := (HB.out.cell (World.block_lt_of_cell? w _ hx305_0)).trans hx305_0
                   replace p305 := eq_true p305
                   replace q305 := eq_true q305
                   go_wp2
                   repeat (go_quiet (fail); try go_wp2)
                   go_ret
                   exact ⟨by first | rfl | (simp [errW_none, errW_some] <;> rfl) | (simp [*, errW_none, errW_some] <;> rfl), by repeat (first | (with_reducible first | exact HB.out | apply below_alloc | apply pw_below_drewN | apply below_drew1 | refine below_set ?_ GE298.out) | exact HB.out)⟩
                  ·rw [if_neg c34] at H
                   have c34b0 : ((rd l0 ((rd_T40 l1 x5_2).f1)) == (-1)) = false := beq_eq_false_iff_ne.mpr c34
                   have c34b1 : ((rd l0 ((rd_T40 l1 x5_2).f1)) != (-1)) = true := bne_iff_ne.mpr c34
                   have H' := Aside0.mk H
                   clear H
                   have hcz36_0 : wc.cell? ⟨gb298, 0, none⟩ = some (.int .i64 ((rd_T40 l1 x5_2).f0)) := (blk_cell BK298.out 0).trans rfl
                   have hcz36_1 : wc.cell? ⟨gb298, 1, none⟩ = some (.int .i64 ((rd_T40 l1 x5_2).f1)) := (blk_cell BK298.out 1).trans rfl
                   have hfz36_0 := blk_frozen BK298.out 0
                   have hfz36_1 := blk_frozen BK298.out 1
                   have p304 : 0 ≤ (((rd_T40 l1 x5_2).f1) : Int) := of_decide_eq_true (by first | (with_reducible assumption) | assumption)
                   have q304 : ((rd_T40 l1 x5_2).f1) < (l0.length : Int) := of_decide_eq_true (by first | (with_reducible assumption) | assumption)
                   obtain ⟨ad304, e304, hx304_0⟩ := Kd.at_int HR0.out ((rd_T40 l1 x5_2).f1) p304 q304
                   cases e304
                   replace hx304_0 := (HB.out.cell (World.block_lt_of_cell? w _ hx304_0)).trans hx304_0
                   replace p304 := eq_true p304
                   replace q304 := eq_true q304
                   have p305 : 0 ≤ (((rd_T40 l1 x5_2).f1) : Int) := of_decide_eq_true (by first | (with_reducible assumption) | assumption)
                   have q305 : ((rd_T40 l1 x5_2).f1) < (l0.length : Int) := of_decide_eq_true (by first | (with_reducible assumption) | assumption)
                   obtain ⟨ad305, e305, hx305_0⟩ := Kd.at_int HR0.out ((rd_T40 l1 x5_2).f1) p305 q305
                   obtain rfl : ad304 = ad305 := (by injection e305)
                   replace hx305_0 := (HB.out.cell (World.block_lt_of_cell? w _ hx305_0)).trans hx305_0
                   replace p305 := eq_true p305
                   replace q305 := eq_true q305
                   go_wp2
                   repeat (go_quiet (fail); try go_wp2)
                   go_roundg kj17
                   case measure => have := HJ2.out; have := HK2.out; have := HJ8.out; have := HJ17.out; omega
                   case rel => exact ⟨(wrap64 (x5_2 + 1)), (by first | rfl | (simp; done) | (simp [*]; done)), H', ⟨by have := HJ2.out; have := HK2.out; have := HJ8.out; have := HJ17.out; omega⟩, ⟨by repeat (first | (with_reducible first | exact HB.out | apply below_alloc | apply pw_below_drewN | apply below_drew1 | refine below_set ?_ GE298.out) | exact HB.out)⟩⟩
                ·rw [if_neg c31] at H
                 exact absurd H (by simp)
               ·rw [if_neg c30] at H
                exact absurd H (by simp)
              ·rw [if_neg c29] at H
               have c29b0 : decide (x5_2 < (wrap64 ((l1.length : Int) - 1))) = false := decide_eq_false c29
               clear c29
               have H' := Aside0.mk H
               clear H
               go_wp2
               repeat (go_quiet (fail); try go_wp2)
               go_roundg kj17
               case measure => have := HJ2.out; have := HK2.out; have := HJ8.out; have := HJ17.out; omega
               case rel => exact ⟨(wrap64 (x5_2 + 1)), (by first | rfl | (simp; done) | (simp [*]; done)), H', ⟨by have := HJ2.out; have := HK2.out; have := HJ8.out; have := HJ17.out; omega⟩, ⟨by repeat (first | (with_reducible first | exact HB.out | apply below_alloc | apply pw_below_drewN | apply below_drew1 | refine below_set ?_ GE298.out) | exact HB.out)⟩⟩
       ·rw [if_neg c8] at H
        exact absurd H (by simp)
      ·rw [if_neg c7] at H
       have c7b0 : decide (x5_2 < (l1.length : Int)) = false := decide_eq_false c7
       clear c7
       obtain rfl := Option.some.inj H
       go_wp2
       repeat (go_quiet (fail); try go_wp2)
       go_ret
       exact ⟨by first | rfl | (simp [errW_none, errW_some] <;> rfl) | (simp [*, errW_none, errW_some] <;> rfl), by repeat (first | (with_reducible first | exact HB.out | apply below_alloc | apply pw_below_drewN | apply below_drew1) | exact HB.out)⟩

end Go.Proofs.Ytmiahmpobpokmaa.P
