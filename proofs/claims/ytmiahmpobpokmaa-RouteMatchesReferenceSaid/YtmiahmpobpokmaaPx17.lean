-- PRINTED by print.py (a twelfth state) out of the translation. Not trusted: Lean checks it.
import Derived.Test.YtmiahmpobpokmaaPx0
import Derived.Test.YtmiahmpobpokmaaPx15
import Derived.Test.YtmiahmpobpokmaaPx16
namespace Go.Proofs.Ytmiahmpobpokmaa.P
open Go.RowKit Go.Proofs.YtmiahmpobpokmaaW.PrintWords Go.Proofs.YtmiahmpobpokmaaW.PrintLast Go.Proofs.YtmiahmpobpokmaaW.PrintMore Go.Proofs.YtmiahmpobpokmaaH Go.Proofs.YtmiahmpobpokmaaR
attribute [local go_sem] max2_int min2_int max_two min_two max_three min_three max_four min_four   -- for this text's walks alone
set_option linter.unusedVariables false
set_option linter.unusedSimpArgs false

/-! ### dialtoneref24_Valid: function 15 -/
mutual
def dialtoneref24_Valid.j0 : Nat → List Int → List Int → Int → Bool → Option (Bool)
  | 0, _, _, _, _ => none
  | k + 1, x0, x1, x2, x22 => if x22 = true then (some false) else (dialtoneref24_Valid.l0 k x0 x1 x2 (wrap64 ((x0.length : Int) - 1)) 0)
def dialtoneref24_Valid.l0 : Nat → List Int → List Int → Int → Int → Int → Option (Bool)
  | 0, _, _, _, _, _ => none
  | k + 1, x0, x1, x2, x7, x8 => if x8 < (x1.length : Int) then (if 0 ≤ x8 then ((dialtoneref24_in.f (rd x1 x8) (-1) x7).bind fun t247 => (if t247 = true then (if (rd x1 x8) ≥ 0 then (dialtoneref24_Valid.j2 k x0 x1 x2 x7 x8 (decide ((rd x1 x8) < (wrap64 (x7 - x2))))) else (dialtoneref24_Valid.j2 k x0 x1 x2 x7 x8 false)) else (dialtoneref24_Valid.j2 k x0 x1 x2 x7 x8 true))) else (none)) else (some true)
def dialtoneref24_Valid.j2 : Nat → List Int → List Int → Int → Int → Int → Bool → Option (Bool)
  | 0, _, _, _, _, _, _ => none
  | k + 1, x0, x1, x2, x7, x8, x55 => if x55 = true then (some false) else (dialtoneref24_Valid.l1 k x0 x1 x2 x7 x8 1)
def dialtoneref24_Valid.l1 : Nat → List Int → List Int → Int → Int → Int → Int → Option (Bool)
  | 0, _, _, _, _, _, _ => none
  | k + 1, x0, x1, x2, x7, x8, x9 => if x9 ≤ x7 then (if 0 ≤ x9 then (if x9 < (x0.length : Int) then (if 0 ≤ (wrap64 (x9 - 1)) then (if (wrap64 (x9 - 1)) < (x0.length : Int) then (if (rd x0 x9) = (rd x0 (wrap64 (x9 - 1))) then (dialtoneref24_Valid.l1 k x0 x1 x2 x7 x8 (wrap64 (x9 + 1))) else (if (rd x0 x9) = x8 then (if 0 ≤ x8 then (if x8 < (x1.length : Int) then (if (rd x1 x8) ≥ 0 then (if (rd x1 x8) < x9 then (some false) else (dialtoneref24_Valid.l1 k x0 x1 x2 x7 x8 (wrap64 (x9 + 1)))) else (dialtoneref24_Valid.l1 k x0 x1 x2 x7 x8 (wrap64 (x9 + 1)))) else (none)) else (none)) else (if (rd x0 (wrap64 (x9 - 1))) = x8 then (if 0 ≤ x8 then (if x8 < (x1.length : Int) then (if (rd x1 x8) ≥ 0 then (if (rd x1 x8) < x9 then (some false) else (dialtoneref24_Valid.l1 k x0 x1 x2 x7 x8 (wrap64 (x9 + 1)))) else (dialtoneref24_Valid.l1 k x0 x1 x2 x7 x8 (wrap64 (x9 + 1)))) else (none)) else (none)) else (dialtoneref24_Valid.l1 k x0 x1 x2 x7 x8 (wrap64 (x9 + 1)))))) else (none)) else (none)) else (none)) else (none)) else (dialtoneref24_Valid.l0 k x0 x1 x2 x7 (wrap64 (x8 + 1)))
end
def dialtoneref24_Valid.f (k : Nat) (l0 : List Int) (l1 : List Int) (a2 : Int) : Option (Bool) := (dialtoneref24_holders.f k l0).bind fun t244 => (if t244 = true then (if (l1.length : Int) = 8 then ((dialtoneref24_in.f a2 0 10).bind fun t245 => (dialtoneref24_Valid.j0 k l0 l1 a2 (!t245))) else (dialtoneref24_Valid.j0 k l0 l1 a2 true)) else (dialtoneref24_Valid.j0 k l0 l1 a2 true))
theorem dialtoneref24_Valid.mono_l : ∀ k, (∀ y0 y1 y2 y3, LeO (dialtoneref24_Valid.j0 k y0 y1 y2 y3) (dialtoneref24_Valid.j0 (k + 1) y0 y1 y2 y3)) ∧ (∀ y0 y1 y2 y3 y4, LeO (dialtoneref24_Valid.l0 k y0 y1 y2 y3 y4) (dialtoneref24_Valid.l0 (k + 1) y0 y1 y2 y3 y4)) ∧ (∀ y0 y1 y2 y3 y4 y5, LeO (dialtoneref24_Valid.j2 k y0 y1 y2 y3 y4 y5) (dialtoneref24_Valid.j2 (k + 1) y0 y1 y2 y3 y4 y5)) ∧ (∀ y0 y1 y2 y3 y4 y5, LeO (dialtoneref24_Valid.l1 k y0 y1 y2 y3 y4 y5) (dialtoneref24_Valid.l1 (k + 1) y0 y1 y2 y3 y4 y5))
  | 0 => ⟨fun _ _ _ _ r h => by simp [dialtoneref24_Valid.j0] at h, fun _ _ _ _ _ r h => by simp [dialtoneref24_Valid.l0] at h, fun _ _ _ _ _ _ r h => by simp [dialtoneref24_Valid.j2] at h, fun _ _ _ _ _ _ r h => by simp [dialtoneref24_Valid.l1] at h⟩
  | k + 1 => by
    obtain ⟨ih0, ih1, ih2, ih3⟩ := dialtoneref24_Valid.mono_l k
    refine ⟨?_, ?_, ?_, ?_⟩
    · intro y0 y1 y2 y3
      unfold dialtoneref24_Valid.j0
      repeat' first
      | (with_reducible exact ih0 _ _ _ _)
      | (with_reducible exact ih1 _ _ _ _ _)
      | (with_reducible exact ih2 _ _ _ _ _ _)
      | (with_reducible exact ih3 _ _ _ _ _ _)
      | (with_reducible exact dialtoneref24_holders.mono _ _)
      | (with_reducible exact LeO.refl _)
      | (with_reducible exact LeO.none _)
      | (with_reducible refine LeO.ite ?_ ?_)
      | (with_reducible refine LeO.bind ?_ (fun _ => ?_))
      | exact ih0 _ _ _ _
      | exact ih1 _ _ _ _ _
      | exact ih2 _ _ _ _ _ _
      | exact ih3 _ _ _ _ _ _
      | exact dialtoneref24_holders.mono _ _
      | exact LeO.none _
      | refine LeO.ite ?_ ?_
      | refine LeO.bind ?_ (fun _ => ?_)
    · intro y0 y1 y2 y3 y4
      unfold dialtoneref24_Valid.l0
      repeat' first
      | (with_reducible exact ih0 _ _ _ _)
      | (with_reducible exact ih1 _ _ _ _ _)
      | (with_reducible exact ih2 _ _ _ _ _ _)
      | (with_reducible exact ih3 _ _ _ _ _ _)
      | (with_reducible exact dialtoneref24_holders.mono _ _)
      | (with_reducible exact LeO.refl _)
      | (with_reducible exact LeO.none _)
      | (with_reducible refine LeO.ite ?_ ?_)
      | (with_reducible refine LeO.bind ?_ (fun _ => ?_))
      | exact ih0 _ _ _ _
      | exact ih1 _ _ _ _ _
      | exact ih2 _ _ _ _ _ _
      | exact ih3 _ _ _ _ _ _
      | exact dialtoneref24_holders.mono _ _
      | exact LeO.none _
      | refine LeO.ite ?_ ?_
      | refine LeO.bind ?_ (fun _ => ?_)
    · intro y0 y1 y2 y3 y4 y5
      unfold dialtoneref24_Valid.j2
      repeat' first
      | (with_reducible exact ih0 _ _ _ _)
      | (with_reducible exact ih1 _ _ _ _ _)
      | (with_reducible exact ih2 _ _ _ _ _ _)
      | (with_reducible exact ih3 _ _ _ _ _ _)
      | (with_reducible exact dialtoneref24_holders.mono _ _)
      | (with_reducible exact LeO.refl _)
      | (with_reducible exact LeO.none _)
      | (with_reducible refine LeO.ite ?_ ?_)
      | (with_reducible refine LeO.bind ?_ (fun _ => ?_))
      | exact ih0 _ _ _ _
      | exact ih1 _ _ _ _ _
      | exact ih2 _ _ _ _ _ _
      | exact ih3 _ _ _ _ _ _
      | exact dialtoneref24_holders.mono _ _
      | exact LeO.none _
      | refine LeO.ite ?_ ?_
      | refine LeO.bind ?_ (fun _ => ?_)
    · intro y0 y1 y2 y3 y4 y5
      unfold dialtoneref24_Valid.l1
      repeat' first
      | (with_reducible exact ih0 _ _ _ _)
      | (with_reducible exact ih1 _ _ _ _ _)
      | (with_reducible exact ih2 _ _ _ _ _ _)
      | (with_reducible exact ih3 _ _ _ _ _ _)
      | (with_reducible exact dialtoneref24_holders.mono _ _)
      | (with_reducible exact LeO.refl _)
      | (with_reducible exact LeO.none _)
      | (with_reducible refine LeO.ite ?_ ?_)
      | (with_reducible refine LeO.bind ?_ (fun _ => ?_))
      | exact ih0 _ _ _ _
      | exact ih1 _ _ _ _ _
      | exact ih2 _ _ _ _ _ _
      | exact ih3 _ _ _ _ _ _
      | exact dialtoneref24_holders.mono _ _
      | exact LeO.none _
      | refine LeO.ite ?_ ?_
      | refine LeO.bind ?_ (fun _ => ?_)
theorem dialtoneref24_Valid.mono : ∀ a0 a1 a2 k, LeO (dialtoneref24_Valid.f k a0 a1 a2) (dialtoneref24_Valid.f (k + 1) a0 a1 a2) := by
  intro a0 a1 a2 k
  obtain ⟨ih0, ih1, ih2, ih3⟩ := dialtoneref24_Valid.mono_l k
  unfold dialtoneref24_Valid.f
  repeat' first
      | (with_reducible exact ih0 _ _ _ _)
      | (with_reducible exact ih1 _ _ _ _ _)
      | (with_reducible exact ih2 _ _ _ _ _ _)
      | (with_reducible exact ih3 _ _ _ _ _ _)
      | (with_reducible exact dialtoneref24_holders.mono _ _)
      | (with_reducible exact LeO.refl _)
      | (with_reducible exact LeO.none _)
      | (with_reducible refine LeO.ite ?_ ?_)
      | (with_reducible refine LeO.bind ?_ (fun _ => ?_))
      | exact ih0 _ _ _ _
      | exact ih1 _ _ _ _ _
      | exact ih2 _ _ _ _ _ _
      | exact ih3 _ _ _ _ _ _
      | exact dialtoneref24_holders.mono _ _
      | exact LeO.none _
      | refine LeO.ite ?_ ?_
      | refine LeO.bind ?_ (fun _ => ?_)
set_option maxHeartbeats 8000000 in
set_option maxRecDepth 100000 in
theorem dialtoneref24_Valid.calls (k : Nat) (A0 : Option Addr) (c0 : Nat) (l0 : List Int) (A1 : Option Addr) (c1 : Nat) (l1 : List Int) (a2 : Int) (r : Bool) (w : World) (hr0 : Kd.C (Kd.int .i64) w A0 l0.length l0) (hc0 : l0.length ≤ c0) (hr1 : Kd.C (Kd.int .i64) w A1 l1.length l1) (hc1 : l1.length ≤ c1) (h : dialtoneref24_Valid.f k l0 l1 a2 = some r) :
    Calls Try.prog 15 #[.slice A0 l0.length c0, .slice A1 l1.length c1, .int .i64 a2] w fun e w' => e = .returned (.bool r) ∧ Drawn0 w w' := by
  have HR0 := Aside0.mk hr0
  have HC0 := Aside0.mk hc0
  clear hr0 hc0
  have HR1 := Aside0.mk hr1
  have HC1 := Aside0.mk hc1
  clear hr1 hc1
  have H : ((dialtoneref24_holders.f k l0).bind fun t244 => (if t244 = true then (if (l1.length : Int) = 8 then ((dialtoneref24_in.f a2 0 10).bind fun t245 => (dialtoneref24_Valid.j0 k l0 l1 a2 (!t245))) else (dialtoneref24_Valid.j0 k l0 l1 a2 true)) else (dialtoneref24_Valid.j0 k l0 l1 a2 true))) = some r := h
  clear h
  have HC4 := Aside0.mk H
  clear H
  go_enter Try.func15, Try.ntmps15
  go_upto_region 1 with (fail)
  repeat (go_quiet (fail); go_upto_region 1 with (fail))
  go_cut [22] (fun v22 wc => ∃ (kq : Nat) (x22_3 : Bool), v22 = .bool x22_3 ∧ Aside0 (dialtoneref24_Valid.j0 kq l0 l1 a2 x22_3 = some r) ∧ Aside0 (kq ≤ k) ∧ Drawn0 w wc)
  case first =>
    have H := HC4.out
    clear HC4
    replace H := Option.bind_eq_some_iff.mp H
    obtain ⟨t244, A50, H⟩ := H
    replace H : (if t244 = true then (if (l1.length : Int) = 8 then ((dialtoneref24_in.f a2 0 10).bind fun t245 => (dialtoneref24_Valid.j0 k l0 l1 a2 (!t245))) else (dialtoneref24_Valid.j0 k l0 l1 a2 true)) else (dialtoneref24_Valid.j0 k l0 l1 a2 true)) = some r := H
    have A5 := Aside0.mk A50
    clear A50
    by_cases c6 : t244 = true
    · subst c6
      have H1 : (if (l1.length : Int) = 8 then ((dialtoneref24_in.f a2 0 10).bind fun t245 => (dialtoneref24_Valid.j0 k l0 l1 a2 (!t245))) else (dialtoneref24_Valid.j0 k l0 l1 a2 true)) = some r := by rw [if_pos rfl] at H; exact H
      clear H
      have H := H1
      clear H1
      by_cases c7 : (l1.length : Int) = 8
      · rw [if_pos c7] at H
        have c7b0 : ((l1.length : Int) == 8) = true := beq_iff_eq.mpr c7
        have c7b1 : ((l1.length : Int) != 8) = false := bne_eq_false_iff_eq.mpr c7
        clear c7
        (first | rw [c7b0] | (simp only [i64_w, i32_w]; rw [c7b0]) | rw [c7b1] | skip)
        replace H := Option.bind_eq_some_iff.mp H
        obtain ⟨t245, A80, H⟩ := H
        replace H : (dialtoneref24_Valid.j0 k l0 l1 a2 (!t245)) = some r := H
        have A8 := Aside0.mk A80
        clear A80
        have H' := Aside0.mk H
        clear H
        go_wp2_with (first | (go_at_call 34; (with_reducible refine (dialtoneref24_holders.calls k _ _ l0 true _ ?side1 ?side2 A5.out).mono ?_); (case side1 => repeat (first | exact HR0.out | (with_reducible refine Kd.C_alloc ?_ _) | (with_reducible refine Kd.C_drewN ?_ _) | (with_reducible refine Kd.C_drew ?_))); (case side2 => exact HC0.out); rintro e w' ⟨rfl, ⟨nd, rfl⟩⟩; (try first | exact ⟨rfl, _, World.drewN_drewN _ _ _⟩ | exact ⟨rfl, _, Eq.trans (World.drewN_drewN _ _ _) (congrArg (World.drewN _) (Nat.add_assoc _ _ _))⟩)) | (go_at_call 35; (with_reducible refine (dialtoneref24_in.calls a2 0 10 t245 _ A8.out).mono ?_); rintro e w' ⟨rfl, ⟨nd, rfl⟩⟩; (try first | exact ⟨rfl, _, World.drewN_drewN _ _ _⟩ | exact ⟨rfl, _, Eq.trans (World.drewN_drewN _ _ _) (congrArg (World.drewN _) (Nat.add_assoc _ _ _))⟩)))
        repeat (go_quiet (first | (go_at_call 34; (with_reducible refine (dialtoneref24_holders.calls k _ _ l0 true _ ?side1 ?side2 A5.out).mono ?_); (case side1 => repeat (first | exact HR0.out | (with_reducible refine Kd.C_alloc ?_ _) | (with_reducible refine Kd.C_drewN ?_ _) | (with_reducible refine Kd.C_drew ?_))); (case side2 => exact HC0.out); rintro e w' ⟨rfl, ⟨nd, rfl⟩⟩; (try first | exact ⟨rfl, _, World.drewN_drewN _ _ _⟩ | exact ⟨rfl, _, Eq.trans (World.drewN_drewN _ _ _) (congrArg (World.drewN _) (Nat.add_assoc _ _ _))⟩)) | (go_at_call 35; (with_reducible refine (dialtoneref24_in.calls a2 0 10 t245 _ A8.out).mono ?_); rintro e w' ⟨rfl, ⟨nd, rfl⟩⟩; (try first | exact ⟨rfl, _, World.drewN_drewN _ _ _⟩ | exact ⟨rfl, _, Eq.trans (World.drewN_drewN _ _ _) (congrArg (World.drewN _) (Nat.add_assoc _ _ _))⟩))); try go_wp2_with (first | (go_at_call 34; (with_reducible refine (dialtoneref24_holders.calls k _ _ l0 true _ ?side1 ?side2 A5.out).mono ?_); (case side1 => repeat (first | exact HR0.out | (with_reducible refine Kd.C_alloc ?_ _) | (with_reducible refine Kd.C_drewN ?_ _) | (with_reducible refine Kd.C_drew ?_))); (case side2 => exact HC0.out); rintro e w' ⟨rfl, ⟨nd, rfl⟩⟩; (try first | exact ⟨rfl, _, World.drewN_drewN _ _ _⟩ | exact ⟨rfl, _, Eq.trans (World.drewN_drewN _ _ _) (congrArg (World.drewN _) (Nat.add_assoc _ _ _))⟩)) | (go_at_call 35; (with_reducible refine (dialtoneref24_in.calls a2 0 10 t245 _ A8.out).mono ?_); rintro e w' ⟨rfl, ⟨nd, rfl⟩⟩; (try first | exact ⟨rfl, _, World.drewN_drewN _ _ _⟩ | exact ⟨rfl, _, Eq.trans (World.drewN_drewN _ _ _) (congrArg (World.drewN _) (Nat.add_assoc _ _ _))⟩))))
        go_meet
        case rel => exact ⟨_, (!t245), (by first | rfl | (simp; done) | (simp [*]; done)), H', ⟨by first | omega | exact Nat.le_refl _⟩, by repeat (first | exact Drawn0.refl _ | apply Drawn0.step)⟩
      · rw [if_neg c7] at H
        have c7b0 : ((l1.length : Int) == 8) = false := beq_eq_false_iff_ne.mpr c7
        have c7b1 : ((l1.length : Int) != 8) = true := bne_iff_ne.mpr c7
        (first | rw [c7b0] | (simp only [i64_w, i32_w]; rw [c7b0]) | rw [c7b1] | skip)
        have H' := Aside0.mk H
        clear H
        go_wp2_with (first | (go_at_call 34; (with_reducible refine (dialtoneref24_holders.calls k _ _ l0 true _ ?side1 ?side2 A5.out).mono ?_); (case side1 => repeat (first | exact HR0.out | (with_reducible refine Kd.C_alloc ?_ _) | (with_reducible refine Kd.C_drewN ?_ _) | (with_reducible refine Kd.C_drew ?_))); (case side2 => exact HC0.out); rintro e w' ⟨rfl, ⟨nd, rfl⟩⟩; (try first | exact ⟨rfl, _, World.drewN_drewN _ _ _⟩ | exact ⟨rfl, _, Eq.trans (World.drewN_drewN _ _ _) (congrArg (World.drewN _) (Nat.add_assoc _ _ _))⟩)))
        repeat (go_quiet (first | (go_at_call 34; (with_reducible refine (dialtoneref24_holders.calls k _ _ l0 true _ ?side1 ?side2 A5.out).mono ?_); (case side1 => repeat (first | exact HR0.out | (with_reducible refine Kd.C_alloc ?_ _) | (with_reducible refine Kd.C_drewN ?_ _) | (with_reducible refine Kd.C_drew ?_))); (case side2 => exact HC0.out); rintro e w' ⟨rfl, ⟨nd, rfl⟩⟩; (try first | exact ⟨rfl, _, World.drewN_drewN _ _ _⟩ | exact ⟨rfl, _, Eq.trans (World.drewN_drewN _ _ _) (congrArg (World.drewN _) (Nat.add_assoc _ _ _))⟩))); try go_wp2_with (first | (go_at_call 34; (with_reducible refine (dialtoneref24_holders.calls k _ _ l0 true _ ?side1 ?side2 A5.out).mono ?_); (case side1 => repeat (first | exact HR0.out | (with_reducible refine Kd.C_alloc ?_ _) | (with_reducible refine Kd.C_drewN ?_ _) | (with_reducible refine Kd.C_drew ?_))); (case side2 => exact HC0.out); rintro e w' ⟨rfl, ⟨nd, rfl⟩⟩; (try first | exact ⟨rfl, _, World.drewN_drewN _ _ _⟩ | exact ⟨rfl, _, Eq.trans (World.drewN_drewN _ _ _) (congrArg (World.drewN _) (Nat.add_assoc _ _ _))⟩))))
        go_meet
        case rel => exact ⟨_, (true), (by first | rfl | (simp; done) | (simp [*]; done)), H', ⟨by first | omega | exact Nat.le_refl _⟩, by repeat (first | exact Drawn0.refl _ | apply Drawn0.step)⟩
    · replace c6 := Bool.eq_false_iff.mpr c6
      subst c6
      have H1 : (dialtoneref24_Valid.j0 k l0 l1 a2 true) = some r := by rw [if_neg (show ¬ (false = true) by decide)] at H; exact H
      clear H
      have H := H1
      clear H1
      have H' := Aside0.mk H
      clear H
      go_wp2_with (first | (go_at_call 34; (with_reducible refine (dialtoneref24_holders.calls k _ _ l0 false _ ?side1 ?side2 A5.out).mono ?_); (case side1 => repeat (first | exact HR0.out | (with_reducible refine Kd.C_alloc ?_ _) | (with_reducible refine Kd.C_drewN ?_ _) | (with_reducible refine Kd.C_drew ?_))); (case side2 => exact HC0.out); rintro e w' ⟨rfl, ⟨nd, rfl⟩⟩; (try first | exact ⟨rfl, _, World.drewN_drewN _ _ _⟩ | exact ⟨rfl, _, Eq.trans (World.drewN_drewN _ _ _) (congrArg (World.drewN _) (Nat.add_assoc _ _ _))⟩)))
      repeat (go_quiet (first | (go_at_call 34; (with_reducible refine (dialtoneref24_holders.calls k _ _ l0 false _ ?side1 ?side2 A5.out).mono ?_); (case side1 => repeat (first | exact HR0.out | (with_reducible refine Kd.C_alloc ?_ _) | (with_reducible refine Kd.C_drewN ?_ _) | (with_reducible refine Kd.C_drew ?_))); (case side2 => exact HC0.out); rintro e w' ⟨rfl, ⟨nd, rfl⟩⟩; (try first | exact ⟨rfl, _, World.drewN_drewN _ _ _⟩ | exact ⟨rfl, _, Eq.trans (World.drewN_drewN _ _ _) (congrArg (World.drewN _) (Nat.add_assoc _ _ _))⟩))); try go_wp2_with (first | (go_at_call 34; (with_reducible refine (dialtoneref24_holders.calls k _ _ l0 false _ ?side1 ?side2 A5.out).mono ?_); (case side1 => repeat (first | exact HR0.out | (with_reducible refine Kd.C_alloc ?_ _) | (with_reducible refine Kd.C_drewN ?_ _) | (with_reducible refine Kd.C_drew ?_))); (case side2 => exact HC0.out); rintro e w' ⟨rfl, ⟨nd, rfl⟩⟩; (try first | exact ⟨rfl, _, World.drewN_drewN _ _ _⟩ | exact ⟨rfl, _, Eq.trans (World.drewN_drewN _ _ _) (congrArg (World.drewN _) (Nat.add_assoc _ _ _))⟩))))
      go_meet
      case rel => exact ⟨_, (true), (by first | rfl | (simp; done) | (simp [*]; done)), H', ⟨by first | omega | exact Nat.le_refl _⟩, by repeat (first | exact Drawn0.refl _ | apply Drawn0.step)⟩
  case rest =>
    clear HC4
    try clear c1
    try clear p2
    try clear c6
    try clear c7
    try clear c7b0
    try clear c7b1
    obtain ⟨kq, x22_3, rfl, HA, HJ3, ⟨mc3, rfl⟩⟩ := hcut
    cases kq with
    | zero => exact absurd HA.out (by simp [dialtoneref24_Valid.j0])
    | succ kj3 =>
      have H := HA.out
      clear HA
      simp only [dialtoneref24_Valid.j0] at H
      by_cases c9 : x22_3 = true
      · subst c9
        have H1 : (some false) = some r := by rw [if_pos rfl] at H; exact H
        clear H
        have H := H1
        clear H1
        obtain rfl := Option.some.inj H
        go_wp2
        repeat (go_quiet (fail); try go_wp2)
        go_ret
        exact ⟨by first | rfl | (simp; done) | (simp [*]; done), by repeat (first | exact Drawn0.refl _ | apply Drawn0.step)⟩
      · replace c9 := Bool.eq_false_iff.mpr c9
        subst c9
        have H1 : (dialtoneref24_Valid.l0 kj3 l0 l1 a2 (wrap64 ((l0.length : Int) - 1)) 0) = some r := by rw [if_neg (show ¬ (false = true) by decide)] at H; exact H
        clear H
        have H := H1
        clear H1
        have H' := Aside0.mk H
        clear H
        go_wp2
        repeat (go_quiet (fail); try go_wp2)
        go_loopg [8] kj3 (fun kq v8 w' => ∃ (x8_2 : Int), v8 = .int .i64 x8_2 ∧ Aside0 (dialtoneref24_Valid.l0 kq l0 l1 a2 (wrap64 ((l0.length : Int) - 1)) x8_2 = some r) ∧ Aside0 (kq ≤ kj3) ∧ Drawn0 w w')
        case atStart => exact ⟨(0), (by first | rfl | (simp; done) | (simp [*]; done)), H', ⟨Nat.le_refl _⟩, by repeat (first | exact Drawn0.refl _ | apply Drawn0.step)⟩
        case round =>
          clear H'
          try clear c1
          try clear p2
          try clear c3
          try clear c6
          try clear p6
          try clear c7
          try clear c7b0
          try clear c7b1
          try clear c9
          try clear p2
          obtain ⟨x8_2, rfl, HA, HK2, ⟨m2, rfl⟩⟩ := hrel
          cases gk with
          | zero => exact absurd HA.out (by simp [dialtoneref24_Valid.l0])
          | succ k2 =>
            have H := HA.out
            clear HA
            simp only [dialtoneref24_Valid.l0] at H
            by_cases c10 : x8_2 < (l1.length : Int)
            · rw [if_pos c10] at H
              have c10b0 : decide (x8_2 < (l1.length : Int)) = true := decide_eq_true c10
              clear c10
              have HC11 := Aside0.mk H
              clear H
              go_upto_region 7 with (fail)
              repeat (go_quiet (fail); go_upto_region 7 with (fail))
              go_cut [55] (fun v55 wc => ∃ (kq : Nat) (x55_10 : Bool), v55 = .bool x55_10 ∧ Aside0 (dialtoneref24_Valid.j2 kq l0 l1 a2 (wrap64 ((l0.length : Int) - 1)) x8_2 x55_10 = some r) ∧ Aside0 (kq ≤ k2) ∧ Drawn0 w wc)
              case first =>
                have H := HC11.out
                clear HC11
                by_cases c12 : 0 ≤ x8_2
                · rw [if_pos c12] at H
                  have c12b0 : decide (0 ≤ x8_2) = true := decide_eq_true c12
                  clear c12
                  (first | rw [c12b0] | (simp only [i64_w, i32_w]; rw [c12b0]) | rw [c12b1] | skip)
                  replace H := Option.bind_eq_some_iff.mp H
                  obtain ⟨t247, A130, H⟩ := H
                  replace H : (if t247 = true then (if (rd l1 x8_2) ≥ 0 then (dialtoneref24_Valid.j2 k2 l0 l1 a2 (wrap64 ((l0.length : Int) - 1)) x8_2 (decide ((rd l1 x8_2) < (wrap64 ((wrap64 ((l0.length : Int) - 1)) - a2))))) else (dialtoneref24_Valid.j2 k2 l0 l1 a2 (wrap64 ((l0.length : Int) - 1)) x8_2 false)) else (dialtoneref24_Valid.j2 k2 l0 l1 a2 (wrap64 ((l0.length : Int) - 1)) x8_2 true)) = some r := H
                  have A13 := Aside0.mk A130
                  clear A130
                  by_cases c14 : t247 = true
                  · subst c14
                    have H1 : (if (rd l1 x8_2) ≥ 0 then (dialtoneref24_Valid.j2 k2 l0 l1 a2 (wrap64 ((l0.length : Int) - 1)) x8_2 (decide ((rd l1 x8_2) < (wrap64 ((wrap64 ((l0.length : Int) - 1)) - a2))))) else (dialtoneref24_Valid.j2 k2 l0 l1 a2 (wrap64 ((l0.length : Int) - 1)) x8_2 false)) = some r := by rw [if_pos rfl] at H; exact H
                    clear H
                    have H := H1
                    clear H1
                    by_cases c15 : (rd l1 x8_2) ≥ 0
                    · rw [if_pos c15] at H
                      have c15b0 : decide (0 ≤ (rd l1 x8_2)) = true := decide_eq_true c15
                      clear c15
                      have H' := Aside0.mk H
                      clear H
                      have p246 : 0 ≤ (x8_2 : Int) := of_decide_eq_true (by first | (with_reducible assumption) | assumption)
                      have q246 : x8_2 < (l1.length : Int) := of_decide_eq_true (by first | (with_reducible assumption) | assumption)
                      obtain ⟨ad246, e246, hx246_0⟩ := Kd.at_int HR1.out x8_2 p246 q246
                      cases e246
                      replace p246 := eq_true p246
                      replace q246 := eq_true q246
                      go_wp2_with (first | (go_at_call 35; (with_reducible refine (dialtoneref24_in.calls (rd l1 x8_2) (-1) (wrap64 ((l0.length : Int) - 1)) true _ A13.out).mono ?_); rintro e w' ⟨rfl, ⟨nd, rfl⟩⟩; (try first | exact ⟨rfl, _, World.drewN_drewN _ _ _⟩ | exact ⟨rfl, _, Eq.trans (World.drewN_drewN _ _ _) (congrArg (World.drewN _) (Nat.add_assoc _ _ _))⟩); have p248 : 0 ≤ (x8_2 : Int) := of_decide_eq_true (by first | (with_reducible assumption) | assumption); have q248 : x8_2 < (l1.length : Int) := of_decide_eq_true (by first | (with_reducible assumption) | assumption); obtain ⟨ad248, e248, hx248_0⟩ := Kd.at_int HR1.out x8_2 p248 q248; obtain rfl : ad246 = ad248 := (by injection e248); replace p248 := eq_true p248; replace q248 := eq_true q248; have p249 : 0 ≤ (x8_2 : Int) := of_decide_eq_true (by first | (with_reducible assumption) | assumption); have q249 : x8_2 < (l1.length : Int) := of_decide_eq_true (by first | (with_reducible assumption) | assumption); obtain ⟨ad249, e249, hx249_0⟩ := Kd.at_int HR1.out x8_2 p249 q249; obtain rfl : ad246 = ad249 := (by injection e249); replace p249 := eq_true p249; replace q249 := eq_true q249))
                      repeat (go_quiet (first | (go_at_call 35; (with_reducible refine (dialtoneref24_in.calls (rd l1 x8_2) (-1) (wrap64 ((l0.length : Int) - 1)) true _ A13.out).mono ?_); rintro e w' ⟨rfl, ⟨nd, rfl⟩⟩; (try first | exact ⟨rfl, _, World.drewN_drewN _ _ _⟩ | exact ⟨rfl, _, Eq.trans (World.drewN_drewN _ _ _) (congrArg (World.drewN _) (Nat.add_assoc _ _ _))⟩); have p248 : 0 ≤ (x8_2 : Int) := of_decide_eq_true (by first | (with_reducible assumption) | assumption); have q248 : x8_2 < (l1.length : Int) := of_decide_eq_true (by first | (with_reducible assumption) | assumption); obtain ⟨ad248, e248, hx248_0⟩ := Kd.at_int HR1.out x8_2 p248 q248; obtain rfl : ad246 = ad248 := (by injection e248); replace p248 := eq_true p248; replace q248 := eq_true q248; have p249 : 0 ≤ (x8_2 : Int) := of_decide_eq_true (by first | (with_reducible assumption) | assumption); have q249 : x8_2 < (l1.length : Int) := of_decide_eq_true (by first | (with_reducible assumption) | assumption); obtain ⟨ad249, e249, hx249_0⟩ := Kd.at_int HR1.out x8_2 p249 q249; obtain rfl : ad246 = ad249 := (by injection e249); replace p249 := eq_true p249; replace q249 := eq_true q249)); try go_wp2_with (first | (go_at_call 35; (with_reducible refine (dialtoneref24_in.calls (rd l1 x8_2) (-1) (wrap64 ((l0.length : Int) - 1)) true _ A13.out).mono ?_); rintro e w' ⟨rfl, ⟨nd, rfl⟩⟩; (try first | exact ⟨rfl, _, World.drewN_drewN _ _ _⟩ | exact ⟨rfl, _, Eq.trans (World.drewN_drewN _ _ _) (congrArg (World.drewN _) (Nat.add_assoc _ _ _))⟩); have p248 : 0 ≤ (x8_2 : Int) := of_decide_eq_true (by first | (with_reducible assumption) | assumption); have q248 : x8_2 < (l1.length : Int) := of_decide_eq_true (by first | (with_reducible assumption) | assumption); obtain ⟨ad248, e248, hx248_0⟩ := Kd.at_int HR1.out x8_2 p248 q248; obtain rfl : ad246 = ad248 := (by injection e248); replace p248 := eq_true p248; replace q248 := eq_true q248; have p249 : 0 ≤ (x8_2 : Int) := of_decide_eq_true (by first | (with_reducible assumption) | assumption); have q249 : x8_2 < (l1.length : Int) := of_decide_eq_true (by first | (with_reducible assumption) | assumption); obtain ⟨ad249, e249, hx249_0⟩ := Kd.at_int HR1.out x8_2 p249 q249; obtain rfl : ad246 = ad249 := (by injection e249); replace p249 := eq_true p249; replace q249 := eq_true q249)))
                      go_meet
                      case rel => exact ⟨_, (decide ((rd l1 x8_2) < (wrap64 ((wrap64 ((l0.length : Int) - 1)) - a2)))), (by first | rfl | (simp; done) | (simp [*]; done)), H', ⟨by have := HJ3.out; have := HK2.out; first | omega | exact Nat.le_refl _⟩, by repeat (first | exact Drawn0.refl _ | apply Drawn0.step)⟩
                    · rw [if_neg c15] at H
                      have c15b0 : decide (0 ≤ (rd l1 x8_2)) = false := decide_eq_false c15
                      clear c15
                      have H' := Aside0.mk H
                      clear H
                      have p246 : 0 ≤ (x8_2 : Int) := of_decide_eq_true (by first | (with_reducible assumption) | assumption)
                      have q246 : x8_2 < (l1.length : Int) := of_decide_eq_true (by first | (with_reducible assumption) | assumption)
                      obtain ⟨ad246, e246, hx246_0⟩ := Kd.at_int HR1.out x8_2 p246 q246
                      cases e246
                      replace p246 := eq_true p246
                      replace q246 := eq_true q246
                      go_wp2_with (first | (go_at_call 35; (with_reducible refine (dialtoneref24_in.calls (rd l1 x8_2) (-1) (wrap64 ((l0.length : Int) - 1)) true _ A13.out).mono ?_); rintro e w' ⟨rfl, ⟨nd, rfl⟩⟩; (try first | exact ⟨rfl, _, World.drewN_drewN _ _ _⟩ | exact ⟨rfl, _, Eq.trans (World.drewN_drewN _ _ _) (congrArg (World.drewN _) (Nat.add_assoc _ _ _))⟩); have p248 : 0 ≤ (x8_2 : Int) := of_decide_eq_true (by first | (with_reducible assumption) | assumption); have q248 : x8_2 < (l1.length : Int) := of_decide_eq_true (by first | (with_reducible assumption) | assumption); obtain ⟨ad248, e248, hx248_0⟩ := Kd.at_int HR1.out x8_2 p248 q248; obtain rfl : ad246 = ad248 := (by injection e248); replace p248 := eq_true p248; replace q248 := eq_true q248))
                      repeat (go_quiet (first | (go_at_call 35; (with_reducible refine (dialtoneref24_in.calls (rd l1 x8_2) (-1) (wrap64 ((l0.length : Int) - 1)) true _ A13.out).mono ?_); rintro e w' ⟨rfl, ⟨nd, rfl⟩⟩; (try first | exact ⟨rfl, _, World.drewN_drewN _ _ _⟩ | exact ⟨rfl, _, Eq.trans (World.drewN_drewN _ _ _) (congrArg (World.drewN _) (Nat.add_assoc _ _ _))⟩); have p248 : 0 ≤ (x8_2 : Int) := of_decide_eq_true (by first | (with_reducible assumption) | assumption); have q248 : x8_2 < (l1.length : Int) := of_decide_eq_true (by first | (with_reducible assumption) | assumption); obtain ⟨ad248, e248, hx248_0⟩ := Kd.at_int HR1.out x8_2 p248 q248; obtain rfl : ad246 = ad248 := (by injection e248); replace p248 := eq_true p248; replace q248 := eq_true q248)); try go_wp2_with (first | (go_at_call 35; (with_reducible refine (dialtoneref24_in.calls (rd l1 x8_2) (-1) (wrap64 ((l0.length : Int) - 1)) true _ A13.out).mono ?_); rintro e w' ⟨rfl, ⟨nd, rfl⟩⟩; (try first | exact ⟨rfl, _, World.drewN_drewN _ _ _⟩ | exact ⟨rfl, _, Eq.trans (World.drewN_drewN _ _ _) (congrArg (World.drewN _) (Nat.add_assoc _ _ _))⟩); have p248 : 0 ≤ (x8_2 : Int) := of_decide_eq_true (by first | (with_reducible assumption) | assumption); have q248 : x8_2 < (l1.length : Int) := of_decide_eq_true (by first | (with_reducible assumption) | assumption); obtain ⟨ad248, e248, hx248_0⟩ := Kd.at_int HR1.out x8_2 p248 q248; obtain rfl : ad246 = ad248 := (by injection e248); replace p248 := eq_true p248; replace q248 := eq_true q248)))
                      go_meet
                      case rel => exact ⟨_, (false), (by first | rfl | (simp; done) | (simp [*]; done)), H', ⟨by have := HJ3.out; have := HK2.out; first | omega | exact Nat.le_refl _⟩, by repeat (first | exact Drawn0.refl _ | apply Drawn0.step)⟩
                  · replace c14 := Bool.eq_false_iff.mpr c14
                    subst c14
                    have H1 : (dialtoneref24_Valid.j2 k2 l0 l1 a2 (wrap64 ((l0.length : Int) - 1)) x8_2 true) = some r := by rw [if_neg (show ¬ (false = true) by decide)] at H; exact H
                    clear H
                    have H := H1
                    clear H1
                    have H' := Aside0.mk H
                    clear H
                    have p246 : 0 ≤ (x8_2 : Int) := of_decide_eq_true (by first | (with_reducible assumption) | assumption)
                    have q246 : x8_2 < (l1.length : Int) := of_decide_eq_true (by first | (with_reducible assumption) | assumption)
                    obtain ⟨ad246, e246, hx246_0⟩ := Kd.at_int HR1.out x8_2 p246 q246
                    cases e246
                    replace p246 := eq_true p246
                    replace q246 := eq_true q246
                    go_wp2_with (first | (go_at_call 35; (with_reducible refine (dialtoneref24_in.calls (rd l1 x8_2) (-1) (wrap64 ((l0.length : Int) - 1)) false _ A13.out).mono ?_); rintro e w' ⟨rfl, ⟨nd, rfl⟩⟩; (try first | exact ⟨rfl, _, World.drewN_drewN _ _ _⟩ | exact ⟨rfl, _, Eq.trans (World.drewN_drewN _ _ _) (congrArg (World.drewN _) (Nat.add_assoc _ _ _))⟩)))
                    repeat (go_quiet (first | (go_at_call 35; (with_reducible refine (dialtoneref24_in.calls (rd l1 x8_2) (-1) (wrap64 ((l0.length : Int) - 1)) false _ A13.out).mono ?_); rintro e w' ⟨rfl, ⟨nd, rfl⟩⟩; (try first | exact ⟨rfl, _, World.drewN_drewN _ _ _⟩ | exact ⟨rfl, _, Eq.trans (World.drewN_drewN _ _ _) (congrArg (World.drewN _) (Nat.add_assoc _ _ _))⟩))); try go_wp2_with (first | (go_at_call 35; (with_reducible refine (dialtoneref24_in.calls (rd l1 x8_2) (-1) (wrap64 ((l0.length : Int) - 1)) false _ A13.out).mono ?_); rintro e w' ⟨rfl, ⟨nd, rfl⟩⟩; (try first | exact ⟨rfl, _, World.drewN_drewN _ _ _⟩ | exact ⟨rfl, _, Eq.trans (World.drewN_drewN _ _ _) (congrArg (World.drewN _) (Nat.add_assoc _ _ _))⟩))))
                    go_meet
                    case rel => exact ⟨_, (true), (by first | rfl | (simp; done) | (simp [*]; done)), H', ⟨by have := HJ3.out; have := HK2.out; first | omega | exact Nat.le_refl _⟩, by repeat (first | exact Drawn0.refl _ | apply Drawn0.step)⟩
                · rw [if_neg c12] at H
                  exact absurd H (by simp)
              case rest =>
                clear HC11
                try clear c1
                try clear p2
                try clear q2
                try clear hx2
                try clear c3
                try clear c6
                try clear p6
                try clear c7
                try clear c7b0
                try clear c7b1
                try clear c9
                try clear c10
                try clear c10b0
                try clear c12
                try clear c12b0
                try clear c12b1
                try clear c14
                try clear c15
                try clear c15b0
                try clear hx246_0
                try clear hx248_0
                try clear hx249_0
                try clear p2
                try clear p246
                try clear p248
                try clear p249
                try clear p6
                try clear q246
                try clear q248
                try clear q249
                obtain ⟨kq, x55_10, rfl, HA, HJ10, ⟨mc10, rfl⟩⟩ := hcut
                cases kq with
                | zero => exact absurd HA.out (by simp [dialtoneref24_Valid.j2])
                | succ kj10 =>
                  have H := HA.out
                  clear HA
                  simp only [dialtoneref24_Valid.j2] at H
                  by_cases c16 : x55_10 = true
                  · subst c16
                    have H1 : (some false) = some r := by rw [if_pos rfl] at H; exact H
                    clear H
                    have H := H1
                    clear H1
                    obtain rfl := Option.some.inj H
                    go_wp2
                    repeat (go_quiet (fail); try go_wp2)
                    go_ret
                    exact ⟨by first | rfl | (simp; done) | (simp [*]; done), by repeat (first | exact Drawn0.refl _ | apply Drawn0.step)⟩
                  · replace c16 := Bool.eq_false_iff.mpr c16
                    subst c16
                    have H1 : (dialtoneref24_Valid.l1 kj10 l0 l1 a2 (wrap64 ((l0.length : Int) - 1)) x8_2 1) = some r := by rw [if_neg (show ¬ (false = true) by decide)] at H; exact H
                    clear H
                    have H := H1
                    clear H1
                    have H' := Aside0.mk H
                    clear H
                    go_wp2
                    repeat (go_quiet (fail); try go_wp2)
                    go_loopg [9] kj10 (fun kq v9 w' => ∃ (x9_4 : Int), v9 = .int .i64 x9_4 ∧ Aside0 (dialtoneref24_Valid.l1 kq l0 l1 a2 (wrap64 ((l0.length : Int) - 1)) x8_2 x9_4 = some r) ∧ Aside0 (kq ≤ kj10) ∧ Drawn0 w w')
                    case atStart => exact ⟨(1), (by first | rfl | (simp; done) | (simp [*]; done)), H', ⟨Nat.le_refl _⟩, by repeat (first | exact Drawn0.refl _ | apply Drawn0.step)⟩
                    case round =>
                      clear H'
                      try clear c1
                      try clear p2
                      try clear q2
                      try clear hx2
                      try clear c3
                      try clear c6
                      try clear p6
                      try clear c7
                      try clear c7b0
                      try clear c7b1
                      try clear c9
                      try clear c10
                      try clear c10b0
                      try clear c12
                      try clear c12b0
                      try clear c12b1
                      try clear c14
                      try clear c15
                      try clear c15b0
                      try clear c16
                      try clear hx246_0
                      try clear hx248_0
                      try clear hx249_0
                      try clear p2
                      try clear p246
                      try clear p248
                      try clear p249
                      try clear p6
                      try clear q2
                      try clear q246
                      try clear q248
                      try clear q249
                      obtain ⟨x9_4, rfl, HA, HK4, ⟨m4, rfl⟩⟩ := hrel
                      cases gk with
                      | zero => exact absurd HA.out (by simp [dialtoneref24_Valid.l1])
                      | succ k4 =>
                        have H := HA.out
                        clear HA
                        simp only [dialtoneref24_Valid.l1] at H
                        by_cases c17 : x9_4 ≤ (wrap64 ((l0.length : Int) - 1))
                        · rw [if_pos c17] at H
                          have c17b0 : decide (x9_4 ≤ (wrap64 ((l0.length : Int) - 1))) = true := decide_eq_true c17
                          clear c17
                          by_cases c18 : 0 ≤ x9_4
                          · rw [if_pos c18] at H
                            have c18b0 : decide (0 ≤ x9_4) = true := decide_eq_true c18
                            clear c18
                            by_cases c19 : x9_4 < (l0.length : Int)
                            · rw [if_pos c19] at H
                              have c19b0 : decide (x9_4 < (l0.length : Int)) = true := decide_eq_true c19
                              clear c19
                              obtain ⟨ji20, hji20⟩ : ∃ j_ : Int, (wrap64 (x9_4 - 1)) = j_ := ⟨_, rfl⟩
                              replace H : (if 0 ≤ (ji20) then (if (ji20) < (l0.length : Int) then (if (rd l0 x9_4) = (rd l0 (ji20)) then (dialtoneref24_Valid.l1 k4 l0 l1 a2 (wrap64 ((l0.length : Int) - 1)) x8_2 (wrap64 (x9_4 + 1))) else (if (rd l0 x9_4) = x8_2 then (if 0 ≤ x8_2 then (if x8_2 < (l1.length : Int) then (if (rd l1 x8_2) ≥ 0 then (if (rd l1 x8_2) < x9_4 then (some false) else (dialtoneref24_Valid.l1 k4 l0 l1 a2 (wrap64 ((l0.length : Int) - 1)) x8_2 (wrap64 (x9_4 + 1)))) else (dialtoneref24_Valid.l1 k4 l0 l1 a2 (wrap64 ((l0.length : Int) - 1)) x8_2 (wrap64 (x9_4 + 1)))) else (none)) else (none)) else (if (rd l0 (ji20)) = x8_2 then (if 0 ≤ x8_2 then (if x8_2 < (l1.length : Int) then (if (rd l1 x8_2) ≥ 0 then (if (rd l1 x8_2) < x9_4 then (some false) else (dialtoneref24_Valid.l1 k4 l0 l1 a2 (wrap64 ((l0.length : Int) - 1)) x8_2 (wrap64 (x9_4 + 1)))) else (dialtoneref24_Valid.l1 k4 l0 l1 a2 (wrap64 ((l0.length : Int) - 1)) x8_2 (wrap64 (x9_4 + 1)))) else (none)) else (none)) else (dialtoneref24_Valid.l1 k4 l0 l1 a2 (wrap64 ((l0.length : Int) - 1)) x8_2 (wrap64 (x9_4 + 1)))))) else (none)) else (none)) = some r := by first | (rw [hji20] at H; exact H) | (simp only [hji20] at H ⊢; exact H)
                              have hji20w : (IntKind.i64.wrap (x9_4 - 1)) = ji20 := (i64_w _).trans hji20
                              by_cases c21 : 0 ≤ (ji20)
                              · rw [if_pos c21] at H
                                have c21b0 : decide (0 ≤ (ji20)) = true := decide_eq_true c21
                                clear c21
                                by_cases c22 : (ji20) < (l0.length : Int)
                                · rw [if_pos c22] at H
                                  have c22b0 : decide ((ji20) < (l0.length : Int)) = true := decide_eq_true c22
                                  clear c22
                                  by_cases c23 : (rd l0 x9_4) = (rd l0 (ji20))
                                  · rw [if_pos c23] at H
                                    have c23b0 : ((rd l0 x9_4) == (rd l0 (ji20))) = true := beq_iff_eq.mpr c23
                                    have c23b1 : ((rd l0 x9_4) != (rd l0 (ji20))) = false := bne_eq_false_iff_eq.mpr c23
                                    clear c23
                                    have H' := Aside0.mk H
                                    clear H
                                    have p250 : 0 ≤ (x9_4 : Int) := of_decide_eq_true (by first | (with_reducible assumption) | assumption)
                                    have q250 : x9_4 < (l0.length : Int) := of_decide_eq_true (by first | (with_reducible assumption) | assumption)
                                    obtain ⟨ad250, e250, hx250_0⟩ := Kd.at_int HR0.out x9_4 p250 q250
                                    cases e250
                                    replace p250 := eq_true p250
                                    replace q250 := eq_true q250
                                    have p251 : 0 ≤ ((ji20) : Int) := of_decide_eq_true (by first | (with_reducible assumption) | assumption)
                                    have q251 : (ji20) < (l0.length : Int) := of_decide_eq_true (by first | (with_reducible assumption) | assumption)
                                    obtain ⟨ad251, e251, hx251_0⟩ := Kd.at_int HR0.out (ji20) p251 q251
                                    obtain rfl : ad250 = ad251 := (by injection e251)
                                    replace p251 := eq_true p251
                                    replace q251 := eq_true q251
                                    go_wp2
                                    repeat (go_quiet (fail); try go_wp2)
                                    go_roundg k4
                                    case measure => have := HJ3.out; have := HK2.out; have := HJ10.out; have := HK4.out; omega
                                    case rel => exact ⟨(wrap64 (x9_4 + 1)), (by first | rfl | (simp; done) | (simp [*]; done)), H', ⟨by have := HJ3.out; have := HK2.out; have := HJ10.out; have := HK4.out; omega⟩, by repeat (first | exact Drawn0.refl _ | apply Drawn0.step)⟩
                                  · rw [if_neg c23] at H
                                    have c23b0 : ((rd l0 x9_4) == (rd l0 (ji20))) = false := beq_eq_false_iff_ne.mpr c23
                                    have c23b1 : ((rd l0 x9_4) != (rd l0 (ji20))) = true := bne_iff_ne.mpr c23
                                    by_cases c24 : (rd l0 x9_4) = x8_2
                                    · rw [if_pos c24] at H
                                      have c24b0 : ((rd l0 x9_4) == x8_2) = true := beq_iff_eq.mpr c24
                                      have c24b1 : ((rd l0 x9_4) != x8_2) = false := bne_eq_false_iff_eq.mpr c24
                                      clear c24
                                      by_cases c25 : 0 ≤ x8_2
                                      · rw [if_pos c25] at H
                                        have c25b0 : decide (0 ≤ x8_2) = true := decide_eq_true c25
                                        clear c25
                                        by_cases c26 : x8_2 < (l1.length : Int)
                                        · rw [if_pos c26] at H
                                          have c26b0 : decide (x8_2 < (l1.length : Int)) = true := decide_eq_true c26
                                          clear c26
                                          by_cases c27 : (rd l1 x8_2) ≥ 0
                                          · rw [if_pos c27] at H
                                            have c27b0 : decide (0 ≤ (rd l1 x8_2)) = true := decide_eq_true c27
                                            clear c27
                                            by_cases c28 : (rd l1 x8_2) < x9_4
                                            · rw [if_pos c28] at H
                                              have c28b0 : decide ((rd l1 x8_2) < x9_4) = true := decide_eq_true c28
                                              clear c28
                                              obtain rfl := Option.some.inj H
                                              have p250 : 0 ≤ (x9_4 : Int) := of_decide_eq_true (by first | (with_reducible assumption) | assumption)
                                              have q250 : x9_4 < (l0.length : Int) := of_decide_eq_true (by first | (with_reducible assumption) | assumption)
                                              obtain ⟨ad250, e250, hx250_0⟩ := Kd.at_int HR0.out x9_4 p250 q250
                                              cases e250
                                              replace p250 := eq_true p250
                                              replace q250 := eq_true q250
                                              have p251 : 0 ≤ ((ji20) : Int) := of_decide_eq_true (by first | (with_reducible assumption) | assumption)
                                              have q251 : (ji20) < (l0.length : Int) := of_decide_eq_true (by first | (with_reducible assumption) | assumption)
                                              obtain ⟨ad251, e251, hx251_0⟩ := Kd.at_int HR0.out (ji20) p251 q251
                                              obtain rfl : ad250 = ad251 := (by injection e251)
                                              replace p251 := eq_true p251
                                              replace q251 := eq_true q251
                                              have p252 : 0 ≤ (x9_4 : Int) := of_decide_eq_true (by first | (with_reducible assumption) | assumption)
                                              have q252 : x9_4 < (l0.length : Int) := of_decide_eq_true (by first | (with_reducible assumption) | assumption)
                                              obtain ⟨ad252, e252, hx252_0⟩ := Kd.at_int HR0.out x9_4 p252 q252
                                              obtain rfl : ad250 = ad252 := (by injection e252)
                                              replace p252 := eq_true p252
                                              replace q252 := eq_true q252
                                              have p253 : 0 ≤ (x8_2 : Int) := of_decide_eq_true (by first | (with_reducible assumption) | assumption)
                                              have q253 : x8_2 < (l1.length : Int) := of_decide_eq_true (by first | (with_reducible assumption) | assumption)
                                              obtain ⟨ad253, e253, hx253_0⟩ := Kd.at_int HR1.out x8_2 p253 q253
                                              cases e253
                                              replace p253 := eq_true p253
                                              replace q253 := eq_true q253
                                              have p254 : 0 ≤ (x8_2 : Int) := of_decide_eq_true (by first | (with_reducible assumption) | assumption)
                                              have q254 : x8_2 < (l1.length : Int) := of_decide_eq_true (by first | (with_reducible assumption) | assumption)
                                              obtain ⟨ad254, e254, hx254_0⟩ := Kd.at_int HR1.out x8_2 p254 q254
                                              obtain rfl : ad253 = ad254 := (by injection e254)
                                              replace p254 := eq_true p254
                                              replace q254 := eq_true q254
                                              go_wp2
                                              repeat (go_quiet (fail); try go_wp2)
                                              go_ret
                                              exact ⟨by first | rfl | (simp; done) | (simp only [← hji20] <;> (first | rfl | simp)) | (simp [*]; done), by repeat (first | exact Drawn0.refl _ | apply Drawn0.step)⟩
                                            · rw [if_neg c28] at H
                                              have c28b0 : decide ((rd l1 x8_2) < x9_4) = false := decide_eq_false c28
                                              clear c28
                                              have H' := Aside0.mk H
                                              clear H
                                              have p250 : 0 ≤ (x9_4 : Int) := of_decide_eq_true (by first | (with_reducible assumption) | assumption)
                                              have q250 : x9_4 < (l0.length : Int) := of_decide_eq_true (by first | (with_reducible assumption) | assumption)
                                              obtain ⟨ad250, e250, hx250_0⟩ := Kd.at_int HR0.out x9_4 p250 q250
                                              cases e250
                                              replace p250 := eq_true p250
                                              replace q250 := eq_true q250
                                              have p251 : 0 ≤ ((ji20) : Int) := of_decide_eq_true (by first | (with_reducible assumption) | assumption)
                                              have q251 : (ji20) < (l0.length : Int) := of_decide_eq_true (by first | (with_reducible assumption) | assumption)
                                              obtain ⟨ad251, e251, hx251_0⟩ := Kd.at_int HR0.out (ji20) p251 q251
                                              obtain rfl : ad250 = ad251 := (by injection e251)
                                              replace p251 := eq_true p251
                                              replace q251 := eq_true q251
                                              have p252 : 0 ≤ (x9_4 : Int) := of_decide_eq_true (by first | (with_reducible assumption) | assumption)
                                              have q252 : x9_4 < (l0.length : Int) := of_decide_eq_true (by first | (with_reducible assumption) | assumption)
                                              obtain ⟨ad252, e252, hx252_0⟩ := Kd.at_int HR0.out x9_4 p252 q252
                                              obtain rfl : ad250 = ad252 := (by injection e252)
                                              replace p252 := eq_true p252
                                              replace q252 := eq_true q252
                                              have p253 : 0 ≤ (x8_2 : Int) := of_decide_eq_true (by first | (with_reducible assumption) | assumption)
                                              have q253 : x8_2 < (l1.length : Int) := of_decide_eq_true (by first | (with_reducible assumption) | assumption)
                                              obtain ⟨ad253, e253, hx253_0⟩ := Kd.at_int HR1.out x8_2 p253 q253
                                              cases e253
                                              replace p253 := eq_true p253
                                              replace q253 := eq_true q253
                                              have p254 : 0 ≤ (x8_2 : Int) := of_decide_eq_true (by first | (with_reducible assumption) | assumption)
                                              have q254 : x8_2 < (l1.length : Int) := of_decide_eq_true (by first | (with_reducible assumption) | assumption)
                                              obtain ⟨ad254, e254, hx254_0⟩ := Kd.at_int HR1.out x8_2 p254 q254
                                              obtain rfl : ad253 = ad254 := (by injection e254)
                                              replace p254 := eq_true p254
                                              replace q254 := eq_true q254
                                              go_wp2
                                              repeat (go_quiet (fail); try go_wp2)
                                              go_roundg k4
                                              case measure => have := HJ3.out; have := HK2.out; have := HJ10.out; have := HK4.out; omega
                                              case rel => exact ⟨(wrap64 (x9_4 + 1)), (by first | rfl | (simp; done) | (simp [*]; done)), H', ⟨by have := HJ3.out; have := HK2.out; have := HJ10.out; have := HK4.out; omega⟩, by repeat (first | exact Drawn0.refl _ | apply Drawn0.step)⟩
                                          · rw [if_neg c27] at H
                                            have c27b0 : decide (0 ≤ (rd l1 x8_2)) = false := decide_eq_false c27
                                            clear c27
                                            have H' := Aside0.mk H
                                            clear H
                                            have p250 : 0 ≤ (x9_4 : Int) := of_decide_eq_true (by first | (with_reducible assumption) | assumption)
                                            have q250 : x9_4 < (l0.length : Int) := of_decide_eq_true (by first | (with_reducible assumption) | assumption)
                                            obtain ⟨ad250, e250, hx250_0⟩ := Kd.at_int HR0.out x9_4 p250 q250
                                            cases e250
                                            replace p250 := eq_true p250
                                            replace q250 := eq_true q250
                                            have p251 : 0 ≤ ((ji20) : Int) := of_decide_eq_true (by first | (with_reducible assumption) | assumption)
                                            have q251 : (ji20) < (l0.length : Int) := of_decide_eq_true (by first | (with_reducible assumption) | assumption)
                                            obtain ⟨ad251, e251, hx251_0⟩ := Kd.at_int HR0.out (ji20) p251 q251
                                            obtain rfl : ad250 = ad251 := (by injection e251)
                                            replace p251 := eq_true p251
                                            replace q251 := eq_true q251
                                            have p252 : 0 ≤ (x9_4 : Int) := of_decide_eq_true (by first | (with_reducible assumption) | assumption)
                                            have q252 : x9_4 < (l0.length : Int) := of_decide_eq_true (by first | (with_reducible assumption) | assumption)
                                            obtain ⟨ad252, e252, hx252_0⟩ := Kd.at_int HR0.out x9_4 p252 q252
                                            obtain rfl : ad250 = ad252 := (by injection e252)
                                            replace p252 := eq_true p252
                                            replace q252 := eq_true q252
                                            have p253 : 0 ≤ (x8_2 : Int) := of_decide_eq_true (by first | (with_reducible assumption) | assumption)
                                            have q253 : x8_2 < (l1.length : Int) := of_decide_eq_true (by first | (with_reducible assumption) | assumption)
                                            obtain ⟨ad253, e253, hx253_0⟩ := Kd.at_int HR1.out x8_2 p253 q253
                                            cases e253
                                            replace p253 := eq_true p253
                                            replace q253 := eq_true q253
                                            go_wp2
                                            repeat (go_quiet (fail); try go_wp2)
                                            go_roundg k4
                                            case measure => have := HJ3.out; have := HK2.out; have := HJ10.out; have := HK4.out; omega
                                            case rel => exact ⟨(wrap64 (x9_4 + 1)), (by first | rfl | (simp; done) | (simp [*]; done)), H', ⟨by have := HJ3.out; have := HK2.out; have := HJ10.out; have := HK4.out; omega⟩, by repeat (first | exact Drawn0.refl _ | apply Drawn0.step)⟩
                                        · rw [if_neg c26] at H
                                          exact absurd H (by simp)
                                      · rw [if_neg c25] at H
                                        exact absurd H (by simp)
                                    · rw [if_neg c24] at H
                                      have c24b0 : ((rd l0 x9_4) == x8_2) = false := beq_eq_false_iff_ne.mpr c24
                                      have c24b1 : ((rd l0 x9_4) != x8_2) = true := bne_iff_ne.mpr c24
                                      by_cases c29 : (rd l0 (ji20)) = x8_2
                                      · rw [if_pos c29] at H
                                        have c29b0 : ((rd l0 (ji20)) == x8_2) = true := beq_iff_eq.mpr c29
                                        have c29b1 : ((rd l0 (ji20)) != x8_2) = false := bne_eq_false_iff_eq.mpr c29
                                        clear c29
                                        by_cases c30 : 0 ≤ x8_2
                                        · rw [if_pos c30] at H
                                          have c30b0 : decide (0 ≤ x8_2) = true := decide_eq_true c30
                                          clear c30
                                          by_cases c31 : x8_2 < (l1.length : Int)
                                          · rw [if_pos c31] at H
                                            have c31b0 : decide (x8_2 < (l1.length : Int)) = true := decide_eq_true c31
                                            clear c31
                                            by_cases c32 : (rd l1 x8_2) ≥ 0
                                            · rw [if_pos c32] at H
                                              have c32b0 : decide (0 ≤ (rd l1 x8_2)) = true := decide_eq_true c32
                                              clear c32
                                              by_cases c33 : (rd l1 x8_2) < x9_4
                                              · rw [if_pos c33] at H
                                                have c33b0 : decide ((rd l1 x8_2) < x9_4) = true := decide_eq_true c33
                                                clear c33
                                                obtain rfl := Option.some.inj H
                                                have p250 : 0 ≤ (x9_4 : Int) := of_decide_eq_true (by first | (with_reducible assumption) | assumption)
                                                have q250 : x9_4 < (l0.length : Int) := of_decide_eq_true (by first | (with_reducible assumption) | assumption)
                                                obtain ⟨ad250, e250, hx250_0⟩ := Kd.at_int HR0.out x9_4 p250 q250
                                                cases e250
                                                replace p250 := eq_true p250
                                                replace q250 := eq_true q250
                                                have p251 : 0 ≤ ((ji20) : Int) := of_decide_eq_true (by first | (with_reducible assumption) | assumption)
                                                have q251 : (ji20) < (l0.length : Int) := of_decide_eq_true (by first | (with_reducible assumption) | assumption)
                                                obtain ⟨ad251, e251, hx251_0⟩ := Kd.at_int HR0.out (ji20) p251 q251
                                                obtain rfl : ad250 = ad251 := (by injection e251)
                                                replace p251 := eq_true p251
                                                replace q251 := eq_true q251
                                                have p252 : 0 ≤ (x9_4 : Int) := of_decide_eq_true (by first | (with_reducible assumption) | assumption)
                                                have q252 : x9_4 < (l0.length : Int) := of_decide_eq_true (by first | (with_reducible assumption) | assumption)
                                                obtain ⟨ad252, e252, hx252_0⟩ := Kd.at_int HR0.out x9_4 p252 q252
                                                obtain rfl : ad250 = ad252 := (by injection e252)
                                                replace p252 := eq_true p252
                                                replace q252 := eq_true q252
                                                have p255 : 0 ≤ ((ji20) : Int) := of_decide_eq_true (by first | (with_reducible assumption) | assumption)
                                                have q255 : (ji20) < (l0.length : Int) := of_decide_eq_true (by first | (with_reducible assumption) | assumption)
                                                obtain ⟨ad255, e255, hx255_0⟩ := Kd.at_int HR0.out (ji20) p255 q255
                                                obtain rfl : ad250 = ad255 := (by injection e255)
                                                replace p255 := eq_true p255
                                                replace q255 := eq_true q255
                                                have p256 : 0 ≤ (x8_2 : Int) := of_decide_eq_true (by first | (with_reducible assumption) | assumption)
                                                have q256 : x8_2 < (l1.length : Int) := of_decide_eq_true (by first | (with_reducible assumption) | assumption)
                                                obtain ⟨ad256, e256, hx256_0⟩ := Kd.at_int HR1.out x8_2 p256 q256
                                                cases e256
                                                replace p256 := eq_true p256
                                                replace q256 := eq_true q256
                                                have p257 : 0 ≤ (x8_2 : Int) := of_decide_eq_true (by first | (with_reducible assumption) | assumption)
                                                have q257 : x8_2 < (l1.length : Int) := of_decide_eq_true (by first | (with_reducible assumption) | assumption)
                                                obtain ⟨ad257, e257, hx257_0⟩ := Kd.at_int HR1.out x8_2 p257 q257
                                                obtain rfl : ad256 = ad257 := (by injection e257)
                                                replace p257 := eq_true p257
                                                replace q257 := eq_true q257
                                                go_wp2
                                                repeat (go_quiet (fail); try go_wp2)
                                                go_ret
                                                exact ⟨by first | rfl | (simp; done) | (simp only [← hji20] <;> (first | rfl | simp)) | (simp [*]; done), by repeat (first | exact Drawn0.refl _ | apply Drawn0.step)⟩
                                              · rw [if_neg c33] at H
                                                have c33b0 : decide ((rd l1 x8_2) < x9_4) = false := decide_eq_false c33
                                                clear c33
                                                have H' := Aside0.mk H
                                                clear H
                                                have p250 : 0 ≤ (x9_4 : Int) := of_decide_eq_true (by first | (with_reducible assumption) | assumption)
                                                have q250 : x9_4 < (l0.length : Int) := of_decide_eq_true (by first | (with_reducible assumption) | assumption)
                                                obtain ⟨ad250, e250, hx250_0⟩ := Kd.at_int HR0.out x9_4 p250 q250
                                                cases e250
                                                replace p250 := eq_true p250
                                                replace q250 := eq_true q250
                                                have p251 : 0 ≤ ((ji20) : Int) := of_decide_eq_true (by first | (with_reducible assumption) | assumption)
                                                have q251 : (ji20) < (l0.length : Int) := of_decide_eq_true (by first | (with_reducible assumption) | assumption)
                                                obtain ⟨ad251, e251, hx251_0⟩ := Kd.at_int HR0.out (ji20) p251 q251
                                                obtain rfl : ad250 = ad251 := (by injection e251)
                                                replace p251 := eq_true p251
                                                replace q251 := eq_true q251
                                                have p252 : 0 ≤ (x9_4 : Int) := of_decide_eq_true (by first | (with_reducible assumption) | assumption)
                                                have q252 : x9_4 < (l0.length : Int) := of_decide_eq_true (by first | (with_reducible assumption) | assumption)
                                                obtain ⟨ad252, e252, hx252_0⟩ := Kd.at_int HR0.out x9_4 p252 q252
                                                obtain rfl : ad250 = ad252 := (by injection e252)
                                                replace p252 := eq_true p252
                                                replace q252 := eq_true q252
                                                have p255 : 0 ≤ ((ji20) : Int) := of_decide_eq_true (by first | (with_reducible assumption) | assumption)
                                                have q255 : (ji20) < (l0.length : Int) := of_decide_eq_true (by first | (with_reducible assumption) | assumption)
                                                obtain ⟨ad255, e255, hx255_0⟩ := Kd.at_int HR0.out (ji20) p255 q255
                                                obtain rfl : ad250 = ad255 := (by injection e255)
                                                replace p255 := eq_true p255
                                                replace q255 := eq_true q255
                                                have p256 : 0 ≤ (x8_2 : Int) := of_decide_eq_true (by first | (with_reducible assumption) | assumption)
                                                have q256 : x8_2 < (l1.length : Int) := of_decide_eq_true (by first | (with_reducible assumption) | assumption)
                                                obtain ⟨ad256, e256, hx256_0⟩ := Kd.at_int HR1.out x8_2 p256 q256
                                                cases e256
                                                replace p256 := eq_true p256
                                                replace q256 := eq_true q256
                                                have p257 : 0 ≤ (x8_2 : Int) := of_decide_eq_true (by first | (with_reducible assumption) | assumption)
                                                have q257 : x8_2 < (l1.length : Int) := of_decide_eq_true (by first | (with_reducible assumption) | assumption)
                                                obtain ⟨ad257, e257, hx257_0⟩ := Kd.at_int HR1.out x8_2 p257 q257
                                                obtain rfl : ad256 = ad257 := (by injection e257)
                                                replace p257 := eq_true p257
                                                replace q257 := eq_true q257
                                                go_wp2
                                                repeat (go_quiet (fail); try go_wp2)
                                                go_roundg k4
                                                case measure => have := HJ3.out; have := HK2.out; have := HJ10.out; have := HK4.out; omega
                                                case rel => exact ⟨(wrap64 (x9_4 + 1)), (by first | rfl | (simp; done) | (simp [*]; done)), H', ⟨by have := HJ3.out; have := HK2.out; have := HJ10.out; have := HK4.out; omega⟩, by repeat (first | exact Drawn0.refl _ | apply Drawn0.step)⟩
                                            · rw [if_neg c32] at H
                                              have c32b0 : decide (0 ≤ (rd l1 x8_2)) = false := decide_eq_false c32
                                              clear c32
                                              have H' := Aside0.mk H
                                              clear H
                                              have p250 : 0 ≤ (x9_4 : Int) := of_decide_eq_true (by first | (with_reducible assumption) | assumption)
                                              have q250 : x9_4 < (l0.length : Int) := of_decide_eq_true (by first | (with_reducible assumption) | assumption)
                                              obtain ⟨ad250, e250, hx250_0⟩ := Kd.at_int HR0.out x9_4 p250 q250
                                              cases e250
                                              replace p250 := eq_true p250
                                              replace q250 := eq_true q250
                                              have p251 : 0 ≤ ((ji20) : Int) := of_decide_eq_true (by first | (with_reducible assumption) | assumption)
                                              have q251 : (ji20) < (l0.length : Int) := of_decide_eq_true (by first | (with_reducible assumption) | assumption)
                                              obtain ⟨ad251, e251, hx251_0⟩ := Kd.at_int HR0.out (ji20) p251 q251
                                              obtain rfl : ad250 = ad251 := (by injection e251)
                                              replace p251 := eq_true p251
                                              replace q251 := eq_true q251
                                              have p252 : 0 ≤ (x9_4 : Int) := of_decide_eq_true (by first | (with_reducible assumption) | assumption)
                                              have q252 : x9_4 < (l0.length : Int) := of_decide_eq_true (by first | (with_reducible assumption) | assumption)
                                              obtain ⟨ad252, e252, hx252_0⟩ := Kd.at_int HR0.out x9_4 p252 q252
                                              obtain rfl : ad250 = ad252 := (by injection e252)
                                              replace p252 := eq_true p252
                                              replace q252 := eq_true q252
                                              have p255 : 0 ≤ ((ji20) : Int) := of_decide_eq_true (by first | (with_reducible assumption) | assumption)
                                              have q255 : (ji20) < (l0.length : Int) := of_decide_eq_true (by first | (with_reducible assumption) | assumption)
                                              obtain ⟨ad255, e255, hx255_0⟩ := Kd.at_int HR0.out (ji20) p255 q255
                                              obtain rfl : ad250 = ad255 := (by injection e255)
                                              replace p255 := eq_true p255
                                              replace q255 := eq_true q255
                                              have p256 : 0 ≤ (x8_2 : Int) := of_decide_eq_true (by first | (with_reducible assumption) | assumption)
                                              have q256 : x8_2 < (l1.length : Int) := of_decide_eq_true (by first | (with_reducible assumption) | assumption)
                                              obtain ⟨ad256, e256, hx256_0⟩ := Kd.at_int HR1.out x8_2 p256 q256
                                              cases e256
                                              replace p256 := eq_true p256
                                              replace q256 := eq_true q256
                                              go_wp2
                                              repeat (go_quiet (fail); try go_wp2)
                                              go_roundg k4
                                              case measure => have := HJ3.out; have := HK2.out; have := HJ10.out; have := HK4.out; omega
                                              case rel => exact ⟨(wrap64 (x9_4 + 1)), (by first | rfl | (simp; done) | (simp [*]; done)), H', ⟨by have := HJ3.out; have := HK2.out; have := HJ10.out; have := HK4.out; omega⟩, by repeat (first | exact Drawn0.refl _ | apply Drawn0.step)⟩
                                          · rw [if_neg c31] at H
                                            exact absurd H (by simp)
                                        · rw [if_neg c30] at H
                                          exact absurd H (by simp)
                                      · rw [if_neg c29] at H
                                        have c29b0 : ((rd l0 (ji20)) == x8_2) = false := beq_eq_false_iff_ne.mpr c29
                                        have c29b1 : ((rd l0 (ji20)) != x8_2) = true := bne_iff_ne.mpr c29
                                        have H' := Aside0.mk H
                                        clear H
                                        have p250 : 0 ≤ (x9_4 : Int) := of_decide_eq_true (by first | (with_reducible assumption) | assumption)
                                        have q250 : x9_4 < (l0.length : Int) := of_decide_eq_true (by first | (with_reducible assumption) | assumption)
                                        obtain ⟨ad250, e250, hx250_0⟩ := Kd.at_int HR0.out x9_4 p250 q250
                                        cases e250
                                        replace p250 := eq_true p250
                                        replace q250 := eq_true q250
                                        have p251 : 0 ≤ ((ji20) : Int) := of_decide_eq_true (by first | (with_reducible assumption) | assumption)
                                        have q251 : (ji20) < (l0.length : Int) := of_decide_eq_true (by first | (with_reducible assumption) | assumption)
                                        obtain ⟨ad251, e251, hx251_0⟩ := Kd.at_int HR0.out (ji20) p251 q251
                                        obtain rfl : ad250 = ad251 := (by injection e251)
                                        replace p251 := eq_true p251
                                        replace q251 := eq_true q251
                                        have p252 : 0 ≤ (x9_4 : Int) := of_decide_eq_true (by first | (with_reducible assumption) | assumption)
                                        have q252 : x9_4 < (l0.length : Int) := of_decide_eq_true (by first | (with_reducible assumption) | assumption)
                                        obtain ⟨ad252, e252, hx252_0⟩ := Kd.at_int HR0.out x9_4 p252 q252
                                        obtain rfl : ad250 = ad252 := (by injection e252)
                                        replace p252 := eq_true p252
                                        replace q252 := eq_true q252
                                        have p255 : 0 ≤ ((ji20) : Int) := of_decide_eq_true (by first | (with_reducible assumption) | assumption)
                                        have q255 : (ji20) < (l0.length : Int) := of_decide_eq_true (by first | (with_reducible assumption) | assumption)
                                        obtain ⟨ad255, e255, hx255_0⟩ := Kd.at_int HR0.out (ji20) p255 q255
                                        obtain rfl : ad250 = ad255 := (by injection e255)
                                        replace p255 := eq_true p255
                                        replace q255 := eq_true q255
                                        go_wp2
                                        repeat (go_quiet (fail); try go_wp2)
                                        go_roundg k4
                                        case measure => have := HJ3.out; have := HK2.out; have := HJ10.out; have := HK4.out; omega
                                        case rel => exact ⟨(wrap64 (x9_4 + 1)), (by first | rfl | (simp; done) | (simp [*]; done)), H', ⟨by have := HJ3.out; have := HK2.out; have := HJ10.out; have := HK4.out; omega⟩, by repeat (first | exact Drawn0.refl _ | apply Drawn0.step)⟩
                                · rw [if_neg c22] at H
                                  exact absurd H (by simp)
                              · rw [if_neg c21] at H
                                exact absurd H (by simp)
                            · rw [if_neg c19] at H
                              exact absurd H (by simp)
                          · rw [if_neg c18] at H
                            exact absurd H (by simp)
                        · rw [if_neg c17] at H
                          have c17b0 : decide (x9_4 ≤ (wrap64 ((l0.length : Int) - 1))) = false := decide_eq_false c17
                          clear c17
                          have H' := Aside0.mk H
                          clear H
                          go_wp2
                          repeat (go_quiet (fail); try go_wp2)
                          go_roundg k4
                          case measure => have := HJ3.out; have := HK2.out; have := HJ10.out; have := HK4.out; omega
                          case rel => exact ⟨(wrap64 (x8_2 + 1)), (by first | rfl | (simp; done) | (simp [*]; done)), H', ⟨by have := HJ3.out; have := HK2.out; have := HJ10.out; have := HK4.out; omega⟩, by repeat (first | exact Drawn0.refl _ | apply Drawn0.step)⟩
            · rw [if_neg c10] at H
              have c10b0 : decide (x8_2 < (l1.length : Int)) = false := decide_eq_false c10
              clear c10
              obtain rfl := Option.some.inj H
              go_wp2
              repeat (go_quiet (fail); try go_wp2)
              go_ret
              exact ⟨by first | rfl | (simp; done) | (simp [*]; done), by repeat (first | exact Drawn0.refl _ | apply Drawn0.step)⟩

end Go.Proofs.Ytmiahmpobpokmaa.P
