-- PRINTED by print.py (a twelfth state) out of the translation. Not trusted: Lean checks it.
import Derived.Test.YtmiahmpobpokmaaPx0
import Derived.Test.YtmiahmpobpokmaaPx1
import Derived.Test.YtmiahmpobpokmaaPx4
import Derived.Test.YtmiahmpobpokmaaPx6
import Derived.Test.YtmiahmpobpokmaaPx12
import Derived.Test.YtmiahmpobpokmaaPx15
namespace Go.Proofs.Ytmiahmpobpokmaa.P
open Go.RowKit Go.Proofs.YtmiahmpobpokmaaW.PrintWords Go.Proofs.YtmiahmpobpokmaaW.PrintLast Go.Proofs.YtmiahmpobpokmaaW.PrintMore Go.Proofs.YtmiahmpobpokmaaH Go.Proofs.YtmiahmpobpokmaaR
attribute [local go_sem] max2_int min2_int max_two min_two max_three min_three max_four min_four   -- for this text's walks alone
set_option linter.unusedVariables false
set_option linter.unusedSimpArgs false

attribute [local go_sem high] eqA40
/-! ### dialtonelaw24_RouteNewest: function 6 -/
mutual
def dialtonelaw24_RouteNewest.l0 : Nat → Int → Int → List Int → Int → List Int → Int → Option (Bool)
  | 0, _, _, _, _, _, _ => none
  | k + 1, x1, x2, x8, x11, x12, x13 => if x13 < 8 then ((dialtonelaw24_pick.f x1 256).bind fun t391 => (if 0 ≤ x13 then (if (Int.tmod (shr .i64 t391 x13) 2) = 1 then (if x12.length < 17592186044416 then (dialtonelaw24_RouteNewest.l0 k x1 x2 x8 x11 (x12 ++ [(-1)]) (wrap64 (x13 + 1))) else (none)) else (if x12.length < 17592186044416 then (dialtonelaw24_RouteNewest.l0 k x1 x2 x8 x11 (x12 ++ [x11]) (wrap64 (x13 + 1))) else (none))) else (none))) else ((dialtonelaw24_pick.f x2 8).bind fun t398 => ((route_Path.f k x8 x12 0 t398).bind fun bt399 => (if 0 ≤ t398 then (if t398 < (x12.length : Int) then (if (rd x12 t398) < 0 then (some (bt399.2.2 == 240)) else (if bt399.2.2 = 0 then ((route_Valid.f x8 x12 0).bind fun t405 => (if t405 = true then (if (bt399.1.length : Int) = 0 then (dialtonelaw24_RouteNewest.j1 k x8 x11 x12 t398 bt399.1 bt399.2.1 true) else (if 0 < (bt399.1.length : Int) then (dialtonelaw24_RouteNewest.j1 k x8 x11 x12 t398 bt399.1 bt399.2.1 (!(((rd_T40 bt399.1 0).f0) == t398) || (!(((rd_T40 bt399.1 0).f1) == x11)))) else (none))) else (dialtonelaw24_RouteNewest.j1 k x8 x11 x12 t398 bt399.1 bt399.2.1 true))) else (dialtonelaw24_RouteNewest.j1 k x8 x11 x12 t398 bt399.1 bt399.2.1 true))) else (none)) else (none))))
def dialtonelaw24_RouteNewest.j1 : Nat → List Int → Int → List Int → Int → List (S40) → Int → Bool → Option (Bool)
  | 0, _, _, _, _, _, _, _ => none
  | k + 1, x8, x11, x12, x15, x16, x17, x85 => if x85 = true then (none) else (if 0 ≤ x11 then (if x11 < (x8.length : Int) then (if (rd x8 x11) = (-1) then (if x17 = 2 then (some ((x16.length : Int) == 1)) else (none)) else (if 0 ≤ (rd x8 x11) then (if (rd x8 x11) < (x12.length : Int) then (if (rd x12 (rd x8 x11)) = (-1) then (if x17 = 3 then (some ((x16.length : Int) == 1)) else (none)) else (if (rd x8 x11) = x15 then (if x17 = 1 then (some ((x16.length : Int) == 1)) else (none)) else (if x17 = 1 then (if (x16.length : Int) = 2 then (if 1 < (x16.length : Int) then (some (((rd_T40 x16 1).f0) == (rd x8 x11) && (((rd_T40 x16 1).f1) == x11))) else (none)) else (none)) else (none)))) else (none)) else (none))) else (none)) else (none))
end
def dialtonelaw24_RouteNewest.f (k : Nat) (l0 : List Int) (a1 : Int) (a2 : Int) : Option (Bool) := (dialtonelaw24_sane.f k).bind fun t383 => (if t383 = true then ((dialtoneref24_Made.f k l0 ([] : List Int) 0).bind fun bt384 => (dialtonelaw24_RouteNewest.l0 k a1 a2 bt384.1 (wrap64 ((bt384.1.length : Int) - 1)) ([] : List Int) 0)) else (none))
theorem dialtonelaw24_RouteNewest.mono_l : ∀ k, (∀ y0 y1 y2 y3 y4 y5, LeO (dialtonelaw24_RouteNewest.l0 k y0 y1 y2 y3 y4 y5) (dialtonelaw24_RouteNewest.l0 (k + 1) y0 y1 y2 y3 y4 y5)) ∧ (∀ y0 y1 y2 y3 y4 y5 y6, LeO (dialtonelaw24_RouteNewest.j1 k y0 y1 y2 y3 y4 y5 y6) (dialtonelaw24_RouteNewest.j1 (k + 1) y0 y1 y2 y3 y4 y5 y6))
  | 0 => ⟨fun _ _ _ _ _ _ r h => by simp [dialtonelaw24_RouteNewest.l0] at h, fun _ _ _ _ _ _ _ r h => by simp [dialtonelaw24_RouteNewest.j1] at h⟩
  | k + 1 => by
    obtain ⟨ih0, ih1⟩ := dialtonelaw24_RouteNewest.mono_l k
    refine ⟨?_, ?_⟩
    · intro y0 y1 y2 y3 y4 y5
      unfold dialtonelaw24_RouteNewest.l0
      repeat' first
      | (with_reducible exact ih0 _ _ _ _ _ _)
      | (with_reducible exact ih1 _ _ _ _ _ _ _)
      | (with_reducible exact dialtonelaw24_sane.mono _)
      | (with_reducible exact dialtoneref24_Made.mono _ _ _ _)
      | (with_reducible exact route_Path.mono _ _ _ _ _)
      | (with_reducible exact LeO.refl _)
      | (with_reducible exact LeO.none _)
      | (with_reducible refine LeO.ite ?_ ?_)
      | (with_reducible refine LeO.bind ?_ (fun _ => ?_))
      | exact ih0 _ _ _ _ _ _
      | exact ih1 _ _ _ _ _ _ _
      | exact dialtonelaw24_sane.mono _
      | exact dialtoneref24_Made.mono _ _ _ _
      | exact route_Path.mono _ _ _ _ _
      | exact LeO.none _
      | refine LeO.ite ?_ ?_
      | refine LeO.bind ?_ (fun _ => ?_)
    · intro y0 y1 y2 y3 y4 y5 y6
      unfold dialtonelaw24_RouteNewest.j1
      repeat' first
      | (with_reducible exact ih0 _ _ _ _ _ _)
      | (with_reducible exact ih1 _ _ _ _ _ _ _)
      | (with_reducible exact dialtonelaw24_sane.mono _)
      | (with_reducible exact dialtoneref24_Made.mono _ _ _ _)
      | (with_reducible exact route_Path.mono _ _ _ _ _)
      | (with_reducible exact LeO.refl _)
      | (with_reducible exact LeO.none _)
      | (with_reducible refine LeO.ite ?_ ?_)
      | (with_reducible refine LeO.bind ?_ (fun _ => ?_))
      | exact ih0 _ _ _ _ _ _
      | exact ih1 _ _ _ _ _ _ _
      | exact dialtonelaw24_sane.mono _
      | exact dialtoneref24_Made.mono _ _ _ _
      | exact route_Path.mono _ _ _ _ _
      | exact LeO.none _
      | refine LeO.ite ?_ ?_
      | refine LeO.bind ?_ (fun _ => ?_)
theorem dialtonelaw24_RouteNewest.mono : ∀ a0 a1 a2 k, LeO (dialtonelaw24_RouteNewest.f k a0 a1 a2) (dialtonelaw24_RouteNewest.f (k + 1) a0 a1 a2) := by
  intro a0 a1 a2 k
  obtain ⟨ih0, ih1⟩ := dialtonelaw24_RouteNewest.mono_l k
  unfold dialtonelaw24_RouteNewest.f
  repeat' first
      | (with_reducible exact ih0 _ _ _ _ _ _)
      | (with_reducible exact ih1 _ _ _ _ _ _ _)
      | (with_reducible exact dialtonelaw24_sane.mono _)
      | (with_reducible exact dialtoneref24_Made.mono _ _ _ _)
      | (with_reducible exact route_Path.mono _ _ _ _ _)
      | (with_reducible exact LeO.refl _)
      | (with_reducible exact LeO.none _)
      | (with_reducible refine LeO.ite ?_ ?_)
      | (with_reducible refine LeO.bind ?_ (fun _ => ?_))
      | exact ih0 _ _ _ _ _ _
      | exact ih1 _ _ _ _ _ _ _
      | exact dialtonelaw24_sane.mono _
      | exact dialtoneref24_Made.mono _ _ _ _
      | exact route_Path.mono _ _ _ _ _
      | exact LeO.none _
      | refine LeO.ite ?_ ?_
      | refine LeO.bind ?_ (fun _ => ?_)
set_option maxHeartbeats 8000000 in
set_option maxRecDepth 100000 in
theorem dialtonelaw24_RouteNewest.calls (k : Nat) (A0 : Option Addr) (c0 : Nat) (l0 : List Int) (a1 : Int) (a2 : Int) (r : Bool) (w : World) (hr0 : Kd.C (Kd.int .i64) w A0 l0.length l0) (hc0 : l0.length ≤ c0) (h : dialtonelaw24_RouteNewest.f k l0 a1 a2 = some r) :
    Calls Try.prog 6 #[.slice A0 l0.length c0, .int .i64 a1, .int .i64 a2] w fun e w' => e = .returned (.bool r) ∧ Below w.heap.size w w' := by
  have hu40 := Try.underlying40
  have HR0 := Aside0.mk hr0
  have HC0 := Aside0.mk hc0
  clear hr0 hc0
  have HB := Aside0.mk (Below.refl w.heap.size w)
  have H : ((dialtonelaw24_sane.f k).bind fun t383 => (if t383 = true then ((dialtoneref24_Made.f k l0 ([] : List Int) 0).bind fun bt384 => (dialtonelaw24_RouteNewest.l0 k a1 a2 bt384.1 (wrap64 ((bt384.1.length : Int) - 1)) ([] : List Int) 0)) else (none))) = some r := h
  clear h
  replace H := Option.bind_eq_some_iff.mp H
  obtain ⟨t383, A40, H⟩ := H
  replace H : (if t383 = true then ((dialtoneref24_Made.f k l0 ([] : List Int) 0).bind fun bt384 => (dialtonelaw24_RouteNewest.l0 k a1 a2 bt384.1 (wrap64 ((bt384.1.length : Int) - 1)) ([] : List Int) 0)) else (none)) = some r := H
  have A4 := Aside0.mk A40
  clear A40
  by_cases c5 : t383 = true
  · subst c5
    have H1 : ((dialtoneref24_Made.f k l0 ([] : List Int) 0).bind fun bt384 => (dialtonelaw24_RouteNewest.l0 k a1 a2 bt384.1 (wrap64 ((bt384.1.length : Int) - 1)) ([] : List Int) 0)) = some r := by rw [if_pos rfl] at H; exact H
    clear H
    have H := H1
    clear H1
    replace H := Option.bind_eq_some_iff.mp H
    obtain ⟨⟨t384, t385, t386⟩, A60, H⟩ := H
    replace H : (dialtonelaw24_RouteNewest.l0 k a1 a2 t384 (wrap64 ((t384.length : Int) - 1)) ([] : List Int) 0) = some r := H
    have A6 := Aside0.mk A60
    clear A60
    have H' := Aside0.mk H
    clear H
    go_enter Try.func6, Try.ntmps6
    go_wp2_with (first | ((with_reducible refine gate_callee (f := 11) rfl ?_); refine goesL_ (some 20) rfl rfl Try.func11 (by kernel_rfl) rfl #[] rfl (by (try simp only [List.map_toArray, List.map_cons, List.map_nil]); first | done | rfl | (simp only [List.length_drop, List.length_take]; rfl)) ?_; (with_reducible refine (dialtonelaw24_sane.calls k  true _ A4.out).mono ?_); rintro e w7 ⟨rfl, hb⟩; refine ⟨_, rfl, ?_⟩; have n0_ := Aside0.mk (below_step (by repeat (first | (with_reducible first | exact HB.out | apply below_alloc | apply pw_below_drewN | apply below_drew1) | exact HB.out)) hb); clear HB; have HB := n0_; clear n0_; (try clear hb); (try clear hb2); (try clear hk); (try clear hi)) | ((with_reducible refine gate_callee (f := 12) rfl ?_); refine goesL_ (some 25) rfl rfl Try.func12 (by kernel_rfl) rfl #[.slice A0 l0.length c0, .slice none 0 0, .int .i64 0] rfl (by (try simp only [List.map_toArray, List.map_cons, List.map_nil]); first | done | rfl | (simp only [List.length_drop, List.length_take]; rfl)) ?_; (refine (dialtoneref24_Made.calls k _ _ l0 _ _ ([] : List Int) 0 t384 t385 t386 _ ?side1 ?side2 ?side3 ?side4 A6.out).mono ?_); (case side1 => repeat (first | exact (Kd.C_below HR0.out HB.out) | (with_reducible refine Kd.C_alloc ?_ _) | (with_reducible refine Kd.C_drewN ?_ _) | (with_reducible refine Kd.C_drew ?_))); (case side2 => exact HC0.out); (case side3 => exact Kd.C_nil _ _); (case side4 => exact Nat.le_refl _); rintro e w8 ⟨v387, v389, rfl, ho0, ho1, hb⟩; refine ⟨_, rfl, ?_⟩; have n0_ := Aside0.mk (Kd.R_lower ho0 (below_size (by repeat (first | (with_reducible first | exact HB.out | apply below_alloc | apply pw_below_drewN | apply below_drew1) | exact HB.out)))); have n1_ := Aside0.mk (Kd.R_lower ho1 (below_size (by repeat (first | (with_reducible first | exact HB.out | apply below_alloc | apply pw_below_drewN | apply below_drew1) | exact HB.out)))); have n2_ := Aside0.mk (below_step (by repeat (first | (with_reducible first | exact HB.out | apply below_alloc | apply pw_below_drewN | apply below_drew1) | exact HB.out)) hb); clear HB; have HO388 := n0_; have HO390 := n1_; have HB := n2_; clear n0_ n1_ n2_; (try clear hb); (try clear hb2); (try clear hk); (try clear hi); (try clear ho0); (try clear ho1); obtain ⟨Ao9, co9, eo9⟩ := Kd.R_slice HO388.out; subst eo9))
    go_loopg [12, 13] k (fun kq v12 v13 w' => ∃ (x12_1 : List Int) (x13_1 : Int), v13 = .int .i64 x13_1 ∧ Aside0 (dialtonelaw24_RouteNewest.l0 kq a1 a2 t384 (wrap64 ((t384.length : Int) - 1)) x12_1 x13_1 = some r) ∧ Aside0 (kq ≤ k) ∧ Aside0 (Kd.R (Kd.int .i64) 3 w' w.heap.size (fun k_ => some k_ ≠ (v12 : Value).ownBlock) (.slice Ao9 t384.length co9) t384) ∧ Aside0 (Kd.R (Kd.int .i64) 3 w' w.heap.size (fun k_ => some k_ ≠ ((.slice Ao9 t384.length co9) : Value).ownBlock) v12 x12_1) ∧ Aside0 (Below w.heap.size w w'))
    case atStart => exact ⟨(([] : List Int)), (0), (by first | rfl | (simp; done) | (simp [*]; done)), H', ⟨Nat.le_refl _⟩, ⟨by (with_reducible repeat (first | apply Kd.R_alloc | apply Kd.R_drewN | apply Kd.R_drew)); exact Kd.R_mono HO388.out (fun _ hk => (by simp [Value.ownBlock]))⟩, ⟨by first | exact Kd.R_nil _ _ _ _ _ | exact Kd.N_nil _ _ _ _ _ | exact Kd.V_nil _ _ _ _ _ | exact Kd.Q_nil _ _ _ _ _ | exact Kd.S_nil _ _ _ _ _⟩, ⟨by repeat (first | (with_reducible first | exact HB.out | apply below_alloc | apply pw_below_drewN | apply below_drew1) | exact HB.out)⟩⟩
    case round =>
      clear H'
      try clear c1
      try clear p2
      try clear c5
      try clear c6
      try clear p6
      obtain ⟨x12_1, x13_1, rfl, HA, HK1, HO_8, HO_12, HB⟩ := hrel
      cases gk with
      | zero => exact absurd HA.out (by simp [dialtonelaw24_RouteNewest.l0])
      | succ k1 =>
        have H := HA.out
        clear HA
        simp only [dialtonelaw24_RouteNewest.l0] at H
        by_cases c10 : x13_1 < 8
        · rw [if_pos c10] at H
          have c10b0 : decide (x13_1 < 8) = true := decide_eq_true c10
          clear c10
          replace H := Option.bind_eq_some_iff.mp H
          obtain ⟨t391, A110, H⟩ := H
          replace H : (if 0 ≤ x13_1 then (if (Int.tmod (shr .i64 t391 x13_1) 2) = 1 then (if x12_1.length < 17592186044416 then (dialtonelaw24_RouteNewest.l0 k1 a1 a2 t384 (wrap64 ((t384.length : Int) - 1)) (x12_1 ++ [(-1)]) (wrap64 (x13_1 + 1))) else (none)) else (if x12_1.length < 17592186044416 then (dialtonelaw24_RouteNewest.l0 k1 a1 a2 t384 (wrap64 ((t384.length : Int) - 1)) (x12_1 ++ [(wrap64 ((t384.length : Int) - 1))]) (wrap64 (x13_1 + 1))) else (none))) else (none)) = some r := H
          have A11 := Aside0.mk A110
          clear A110
          by_cases c12 : 0 ≤ x13_1
          · rw [if_pos c12] at H
            have c12b0 := eq_true c12
            have c12b1 : decide (0 ≤ x13_1) = true := decide_eq_true c12
            clear c12
            obtain ⟨ji13, hji13⟩ : ∃ j_ : Int, (shr .i64 t391 x13_1) = j_ := ⟨_, rfl⟩
            replace H : (if (Int.tmod (ji13) 2) = 1 then (if x12_1.length < 17592186044416 then (dialtonelaw24_RouteNewest.l0 k1 a1 a2 t384 (wrap64 ((t384.length : Int) - 1)) (x12_1 ++ [(-1)]) (wrap64 (x13_1 + 1))) else (none)) else (if x12_1.length < 17592186044416 then (dialtonelaw24_RouteNewest.l0 k1 a1 a2 t384 (wrap64 ((t384.length : Int) - 1)) (x12_1 ++ [(wrap64 ((t384.length : Int) - 1))]) (wrap64 (x13_1 + 1))) else (none))) = some r := by first | (rw [hji13] at H; exact H) | (simp only [hji13] at H ⊢; exact H)
            (try rw [hji13] at A11)
            have hji13_ : (t391 / 2 ^ min x13_1.toNat 64) = ji13 := hji13
            have hji13z : x13_1 ≤ 64 → (t391 / 2 ^ x13_1.toNat) = ji13 := shr_small hji13
            by_cases c14 : (Int.tmod (ji13) 2) = 1
            · rw [if_pos c14] at H
              have c14b0 : ((Int.tmod (ji13) 2) == 1) = true := beq_iff_eq.mpr c14
              have c14b1 : ((Int.tmod (ji13) 2) != 1) = false := bne_eq_false_iff_eq.mpr c14
              clear c14
              by_cases c15 : x12_1.length < 17592186044416
              · rw [if_pos c15] at H
                have LMc15 := Aside0.mk c15
                clear c15
                obtain ⟨y392, hy392⟩ : ∃ y_ : List Int, y_ = (x12_1 ++ [(-1)]) := ⟨_, rfl⟩
                replace H : (dialtonelaw24_RouteNewest.l0 k1 a1 a2 t384 (wrap64 ((t384.length : Int) - 1)) y392 (wrap64 (x13_1 + 1))) = some r := by first | (rw [hy392]; with_reducible exact H) | (have H2_ := (Option.bind_some _ _).symm.trans H; rw [hy392]; with_reducible exact H2_) | (have H2_ := (Option.bind_some _ _).symm.trans H; with_reducible exact H2_) | with_reducible exact H | (rw [hy392]; exact H) | exact H
                have Ny392 := Aside0.mk hy392
                clear hy392
                have H' := Aside0.mk H
                clear H
                go_wp2_with (first | ((with_reducible refine gate_callee (f := 13) rfl ?_); refine goesL_ (some 38) rfl rfl Try.func13 (by kernel_rfl) rfl #[.int .i64 a1, .int .i64 256] rfl (by (try simp only [List.map_toArray, List.map_cons, List.map_nil]); first | done | rfl | (simp only [List.length_drop, List.length_take]; rfl)) ?_; (with_reducible refine (dialtonelaw24_pick.calls a1 256 t391 _ A11.out).mono ?_); rintro e w' ⟨rfl, ⟨nd, rfl⟩⟩; refine ⟨_, rfl, ?_⟩) | ((with_reducible refine gate_builtin (b := .append) (xs := #[.tmp 43, .tmp 45]) rfl ?_); (try (refine gate_guard (by rfl) ?_; dsimp only)); at_builtin; refine Kd.R_append (Kd.int .i64) (w0 := w) w.heap.size rfl (.tmp 43) (.tmp 45) 22 3 (.int .i64 0) 8 rfl Try.underlying22 info3 rfl (by decide) (by omega) u12 x12_1 (-1) [.int .i64 (-1)] (fun k_ => some k_ ≠ (.slice Ao9 t384.length co9 : Value).ownBlock) (fun _ => False) rfl rfl ?aP (fun _ hk => hk.elim) ?aF ?aO ?aB ?aS ?aL ?_; (case aP => exact rfl); (case aB => exact (by repeat (first | (with_reducible first | exact HB.out | apply below_alloc | apply pw_below_drewN | apply below_drew1) | exact HB.out))); (case aF => exact (fun k_ hk => Kd.fresh' (Kd.R_lt (by (with_reducible repeat (first | apply Kd.R_alloc | apply Kd.R_drewN | apply Kd.R_drew)); exact HO_8.out)) k_ hk)); (case aO => exact (by (with_reducible repeat (first | apply Kd.R_alloc | apply Kd.R_drewN | apply Kd.R_drew)); exact HO_12.out)); (case aS => exact (below_size (by repeat (first | (with_reducible first | exact HB.out | apply below_alloc | apply pw_below_drewN | apply below_drew1) | exact HB.out)))); (case aL => have := LMc15.out; omega); intro v393 w16 ho hb hg hat; rw [← Ny392.out] at ho; have n0_ := Aside0.mk (Kd.R_after (ok := (fun _ => True)) (by (with_reducible repeat (first | apply Kd.R_alloc | apply Kd.R_drewN | apply Kd.R_drew)); exact Kd.R_mono HO_8.out (fun _ hk => ⟨trivial, hk⟩)) hg hat); have n1_ := Aside0.mk (hb); have n2_ := Aside0.mk (ho); clear HO_8; clear HB; clear HO_12; have HO_8 := n0_; have HB := n1_; have HO394 := n2_; clear n0_ n1_ n2_; clear ho hb hg hat))
                go_roundg k1
                case measure => have := HK1.out; omega
                case rel => exact ⟨(y392), (wrap64 (x13_1 + 1)), (by first | rfl | (simp; done) | (simp [*]; done)), H', ⟨by have := HK1.out; omega⟩, ⟨by (with_reducible repeat (first | apply Kd.R_alloc | apply Kd.R_drewN | apply Kd.R_drew)); exact Kd.R_mono HO_8.out (fun _ hk => hk.2)⟩, ⟨by (with_reducible repeat (first | apply Kd.R_alloc | apply Kd.R_drewN | apply Kd.R_drew)); exact HO394.out⟩, ⟨by repeat (first | (with_reducible first | exact HB.out | apply below_alloc | apply pw_below_drewN | apply below_drew1) | exact HB.out)⟩⟩
              · rw [if_neg c15] at H
                exact absurd H (by simp)
            · rw [if_neg c14] at H
              have c14b0 : ((Int.tmod (ji13) 2) == 1) = false := beq_eq_false_iff_ne.mpr c14
              have c14b1 : ((Int.tmod (ji13) 2) != 1) = true := bne_iff_ne.mpr c14
              by_cases c17 : x12_1.length < 17592186044416
              · rw [if_pos c17] at H
                have LMc17 := Aside0.mk c17
                clear c17
                obtain ⟨y395, hy395⟩ : ∃ y_ : List Int, y_ = (x12_1 ++ [(wrap64 ((t384.length : Int) - 1))]) := ⟨_, rfl⟩
                replace H : (dialtonelaw24_RouteNewest.l0 k1 a1 a2 t384 (wrap64 ((t384.length : Int) - 1)) y395 (wrap64 (x13_1 + 1))) = some r := by first | (rw [hy395]; with_reducible exact H) | (have H2_ := (Option.bind_some _ _).symm.trans H; rw [hy395]; with_reducible exact H2_) | (have H2_ := (Option.bind_some _ _).symm.trans H; with_reducible exact H2_) | with_reducible exact H | (rw [hy395]; exact H) | exact H
                have Ny395 := Aside0.mk hy395
                clear hy395
                have H' := Aside0.mk H
                clear H
                go_wp2_with (first | ((with_reducible refine gate_callee (f := 13) rfl ?_); refine goesL_ (some 38) rfl rfl Try.func13 (by kernel_rfl) rfl #[.int .i64 a1, .int .i64 256] rfl (by (try simp only [List.map_toArray, List.map_cons, List.map_nil]); first | done | rfl | (simp only [List.length_drop, List.length_take]; rfl)) ?_; (with_reducible refine (dialtonelaw24_pick.calls a1 256 t391 _ A11.out).mono ?_); rintro e w' ⟨rfl, ⟨nd, rfl⟩⟩; refine ⟨_, rfl, ?_⟩) | ((with_reducible refine gate_builtin (b := .append) (xs := #[.tmp 43, .tmp 45]) rfl ?_); (try (refine gate_guard (by rfl) ?_; dsimp only)); at_builtin; refine Kd.R_append (Kd.int .i64) (w0 := w) w.heap.size rfl (.tmp 43) (.tmp 45) 22 3 (.int .i64 0) 8 rfl Try.underlying22 info3 rfl (by decide) (by omega) u12 x12_1 (wrap64 ((t384.length : Int) - 1)) [.int .i64 (wrap64 ((t384.length : Int) - 1))] (fun k_ => some k_ ≠ (.slice Ao9 t384.length co9 : Value).ownBlock) (fun _ => False) rfl rfl ?aP (fun _ hk => hk.elim) ?aF ?aO ?aB ?aS ?aL ?_; (case aP => exact rfl); (case aB => exact (by repeat (first | (with_reducible first | exact HB.out | apply below_alloc | apply pw_below_drewN | apply below_drew1) | exact HB.out))); (case aF => exact (fun k_ hk => Kd.fresh' (Kd.R_lt (by (with_reducible repeat (first | apply Kd.R_alloc | apply Kd.R_drewN | apply Kd.R_drew)); exact HO_8.out)) k_ hk)); (case aO => exact (by (with_reducible repeat (first | apply Kd.R_alloc | apply Kd.R_drewN | apply Kd.R_drew)); exact HO_12.out)); (case aS => exact (below_size (by repeat (first | (with_reducible first | exact HB.out | apply below_alloc | apply pw_below_drewN | apply below_drew1) | exact HB.out)))); (case aL => have := LMc17.out; omega); intro v396 w18 ho hb hg hat; rw [← Ny395.out] at ho; have n0_ := Aside0.mk (Kd.R_after (ok := (fun _ => True)) (by (with_reducible repeat (first | apply Kd.R_alloc | apply Kd.R_drewN | apply Kd.R_drew)); exact Kd.R_mono HO_8.out (fun _ hk => ⟨trivial, hk⟩)) hg hat); have n1_ := Aside0.mk (hb); have n2_ := Aside0.mk (ho); clear HO_8; clear HB; clear HO_12; have HO_8 := n0_; have HB := n1_; have HO397 := n2_; clear n0_ n1_ n2_; clear ho hb hg hat))
                go_roundg k1
                case measure => have := HK1.out; omega
                case rel => exact ⟨(y395), (wrap64 (x13_1 + 1)), (by first | rfl | (simp; done) | (simp [*]; done)), H', ⟨by have := HK1.out; omega⟩, ⟨by (with_reducible repeat (first | apply Kd.R_alloc | apply Kd.R_drewN | apply Kd.R_drew)); exact Kd.R_mono HO_8.out (fun _ hk => hk.2)⟩, ⟨by (with_reducible repeat (first | apply Kd.R_alloc | apply Kd.R_drewN | apply Kd.R_drew)); exact HO397.out⟩, ⟨by repeat (first | (with_reducible first | exact HB.out | apply below_alloc | apply pw_below_drewN | apply below_drew1) | exact HB.out)⟩⟩
              · rw [if_neg c17] at H
                exact absurd H (by simp)
          · rw [if_neg c12] at H
            exact absurd H (by simp)
        · rw [if_neg c10] at H
          have c10b0 : decide (x13_1 < 8) = false := decide_eq_false c10
          clear c10
          replace H := Option.bind_eq_some_iff.mp H
          obtain ⟨t398, A190, H⟩ := H
          replace H : ((route_Path.f k1 t384 x12_1 0 t398).bind fun bt399 => (if 0 ≤ t398 then (if t398 < (x12_1.length : Int) then (if (rd x12_1 t398) < 0 then (some (bt399.2.2 == 240)) else (if bt399.2.2 = 0 then ((route_Valid.f t384 x12_1 0).bind fun t405 => (if t405 = true then (if (bt399.1.length : Int) = 0 then (dialtonelaw24_RouteNewest.j1 k1 t384 (wrap64 ((t384.length : Int) - 1)) x12_1 t398 bt399.1 bt399.2.1 true) else (if 0 < (bt399.1.length : Int) then (dialtonelaw24_RouteNewest.j1 k1 t384 (wrap64 ((t384.length : Int) - 1)) x12_1 t398 bt399.1 bt399.2.1 (!(((rd_T40 bt399.1 0).f0) == t398) || (!(((rd_T40 bt399.1 0).f1) == (wrap64 ((t384.length : Int) - 1)))))) else (none))) else (dialtonelaw24_RouteNewest.j1 k1 t384 (wrap64 ((t384.length : Int) - 1)) x12_1 t398 bt399.1 bt399.2.1 true))) else (dialtonelaw24_RouteNewest.j1 k1 t384 (wrap64 ((t384.length : Int) - 1)) x12_1 t398 bt399.1 bt399.2.1 true))) else (none)) else (none))) = some r := H
          have A19 := Aside0.mk A190
          clear A190
          replace H := Option.bind_eq_some_iff.mp H
          obtain ⟨⟨t399, t400, t401⟩, A200, H⟩ := H
          replace H : (if 0 ≤ t398 then (if t398 < (x12_1.length : Int) then (if (rd x12_1 t398) < 0 then (some (t401 == 240)) else (if t401 = 0 then ((route_Valid.f t384 x12_1 0).bind fun t405 => (if t405 = true then (if (t399.length : Int) = 0 then (dialtonelaw24_RouteNewest.j1 k1 t384 (wrap64 ((t384.length : Int) - 1)) x12_1 t398 t399 t400 true) else (if 0 < (t399.length : Int) then (dialtonelaw24_RouteNewest.j1 k1 t384 (wrap64 ((t384.length : Int) - 1)) x12_1 t398 t399 t400 (!(((rd_T40 t399 0).f0) == t398) || (!(((rd_T40 t399 0).f1) == (wrap64 ((t384.length : Int) - 1)))))) else (none))) else (dialtonelaw24_RouteNewest.j1 k1 t384 (wrap64 ((t384.length : Int) - 1)) x12_1 t398 t399 t400 true))) else (dialtonelaw24_RouteNewest.j1 k1 t384 (wrap64 ((t384.length : Int) - 1)) x12_1 t398 t399 t400 true))) else (none)) else (none)) = some r := H
          have A20 := Aside0.mk A200
          clear A200
          by_cases c21 : 0 ≤ t398
          · rw [if_pos c21] at H
            have c21b0 : decide (0 ≤ t398) = true := decide_eq_true c21
            clear c21
            by_cases c22 : t398 < (x12_1.length : Int)
            · rw [if_pos c22] at H
              have c22b0 : decide (t398 < (x12_1.length : Int)) = true := decide_eq_true c22
              clear c22
              by_cases c23 : (rd x12_1 t398) < 0
              · rw [if_pos c23] at H
                have c23b0 : decide ((rd x12_1 t398) < 0) = true := decide_eq_true c23
                clear c23
                obtain rfl := Option.some.inj H
                go_wp2_with (first | ((with_reducible refine gate_callee (f := 13) rfl ?_); refine goesL_ (some 48) rfl rfl Try.func13 (by kernel_rfl) rfl #[.int .i64 a2, .int .i64 8] rfl (by (try simp only [List.map_toArray, List.map_cons, List.map_nil]); first | done | rfl | (simp only [List.length_drop, List.length_take]; rfl)) ?_; (with_reducible refine (dialtonelaw24_pick.calls a2 8 t398 _ A19.out).mono ?_); rintro e w' ⟨rfl, ⟨nd, rfl⟩⟩; refine ⟨_, rfl, ?_⟩; obtain ⟨Ao24, co24, eo24⟩ := Kd.R_slice HO_12.out; subst eo24) | ((with_reducible refine gate_callee (f := 16) rfl ?_); refine goesL_ (some 53) rfl rfl Try.func16 (by kernel_rfl) rfl #[.slice Ao9 t384.length co9, .slice Ao24 x12_1.length co24, .int .i64 0, .int .i64 t398] rfl (by (try simp only [List.map_toArray, List.map_cons, List.map_nil]); first | done | rfl | (simp only [List.length_drop, List.length_take]; rfl)) ?_; (with_reducible refine (route_Path.calls k1 _ _ t384 _ _ x12_1 0 t398 t399 t400 t401 _ ?side1 ?side2 ?side3 ?side4 A20.out).mono ?_); (case side1 => repeat (first | exact (Kd.R_reads' HO_8.out).2.2 | (with_reducible refine Kd.C_alloc ?_ _) | (with_reducible refine Kd.C_drewN ?_ _) | (with_reducible refine Kd.C_drew ?_))); (case side2 => exact (Kd.R_reads' HO_8.out).2.1); (case side3 => repeat (first | exact (Kd.R_reads' HO_12.out).2.2 | (with_reducible refine Kd.C_alloc ?_ _) | (with_reducible refine Kd.C_drewN ?_ _) | (with_reducible refine Kd.C_drew ?_))); (case side4 => exact (Kd.R_reads' HO_12.out).2.1); rintro e w25 ⟨v402, rfl, ho0, hb⟩; refine ⟨_, rfl, ?_⟩; have n0_ := Aside0.mk (Kd.R_below (by (with_reducible repeat (first | apply Kd.R_alloc | apply Kd.R_drewN | apply Kd.R_drew)); exact HO_8.out) hb); have n1_ := Aside0.mk (Kd.R_below (by (with_reducible repeat (first | apply Kd.R_alloc | apply Kd.R_drewN | apply Kd.R_drew)); exact HO_12.out) hb); have n2_ := Aside0.mk (Kd.R_lower ho0 (below_size (by repeat (first | (with_reducible first | exact HB.out | apply below_alloc | apply pw_below_drewN | apply below_drew1) | exact HB.out)))); have n3_ := Aside0.mk (below_step (by repeat (first | (with_reducible first | exact HB.out | apply below_alloc | apply pw_below_drewN | apply below_drew1) | exact HB.out)) hb); clear HO_8; clear HO_12; clear HB; have HO_8 := n0_; have HO_12 := n1_; have HO403 := n2_; have HB := n3_; clear n0_ n1_ n2_ n3_; (try clear hb); (try clear hb2); (try clear hk); (try clear hi); (try clear ho0); have p404 : 0 ≤ (t398 : Int) := of_decide_eq_true (by first | (with_reducible assumption) | assumption); have q404 : t398 < (x12_1.length : Int) := of_decide_eq_true (by first | (with_reducible assumption) | assumption); obtain ⟨ad404, e404, hx404_0⟩ := Kd.at_int (Kd.R_reads' HO_12.out).2.2 t398 p404 q404; cases e404; replace p404 := eq_true p404; replace q404 := eq_true q404))
                go_ret
                exact ⟨by first | rfl | (simp [errW_none, errW_some] <;> rfl) | (simp [*, errW_none, errW_some] <;> rfl), by repeat (first | (with_reducible first | exact HB.out | apply below_alloc | apply pw_below_drewN | apply below_drew1) | exact HB.out)⟩
              · rw [if_neg c23] at H
                have c23b0 : decide ((rd x12_1 t398) < 0) = false := decide_eq_false c23
                clear c23
                have HC26 := Aside0.mk H
                clear H
                go_upto_region 18 with (first | ((with_reducible refine gate_callee (f := 13) rfl ?_); refine goesL_ (some 48) rfl rfl Try.func13 (by kernel_rfl) rfl #[.int .i64 a2, .int .i64 8] rfl (by (try simp only [List.map_toArray, List.map_cons, List.map_nil]); first | done | rfl | (simp only [List.length_drop, List.length_take]; rfl)) ?_; (with_reducible refine (dialtonelaw24_pick.calls a2 8 t398 _ A19.out).mono ?_); rintro e w' ⟨rfl, ⟨nd, rfl⟩⟩; refine ⟨_, rfl, ?_⟩; obtain ⟨Ao27, co27, eo27⟩ := Kd.R_slice HO_12.out; subst eo27) | ((with_reducible refine gate_callee (f := 16) rfl ?_); refine goesL_ (some 53) rfl rfl Try.func16 (by kernel_rfl) rfl #[.slice Ao9 t384.length co9, .slice Ao27 x12_1.length co27, .int .i64 0, .int .i64 t398] rfl (by (try simp only [List.map_toArray, List.map_cons, List.map_nil]); first | done | rfl | (simp only [List.length_drop, List.length_take]; rfl)) ?_; (with_reducible refine (route_Path.calls k1 _ _ t384 _ _ x12_1 0 t398 t399 t400 t401 _ ?side1 ?side2 ?side3 ?side4 A20.out).mono ?_); (case side1 => repeat (first | exact (Kd.R_reads' HO_8.out).2.2 | (with_reducible refine Kd.C_alloc ?_ _) | (with_reducible refine Kd.C_drewN ?_ _) | (with_reducible refine Kd.C_drew ?_))); (case side2 => exact (Kd.R_reads' HO_8.out).2.1); (case side3 => repeat (first | exact (Kd.R_reads' HO_12.out).2.2 | (with_reducible refine Kd.C_alloc ?_ _) | (with_reducible refine Kd.C_drewN ?_ _) | (with_reducible refine Kd.C_drew ?_))); (case side4 => exact (Kd.R_reads' HO_12.out).2.1); rintro e w28 ⟨v402, rfl, ho0, hb⟩; refine ⟨_, rfl, ?_⟩; have n0_ := Aside0.mk (Kd.R_below (by (with_reducible repeat (first | apply Kd.R_alloc | apply Kd.R_drewN | apply Kd.R_drew)); exact HO_8.out) hb); have n1_ := Aside0.mk (Kd.R_below (by (with_reducible repeat (first | apply Kd.R_alloc | apply Kd.R_drewN | apply Kd.R_drew)); exact HO_12.out) hb); have n2_ := Aside0.mk (Kd.R_lower ho0 (below_size (by repeat (first | (with_reducible first | exact HB.out | apply below_alloc | apply pw_below_drewN | apply below_drew1) | exact HB.out)))); have n3_ := Aside0.mk (below_step (by repeat (first | (with_reducible first | exact HB.out | apply below_alloc | apply pw_below_drewN | apply below_drew1) | exact HB.out)) hb); clear HO_8; clear HO_12; clear HB; have HO_8 := n0_; have HO_12 := n1_; have HO403 := n2_; have HB := n3_; clear n0_ n1_ n2_ n3_; (try clear hb); (try clear hb2); (try clear hk); (try clear hi); (try clear ho0); have p404 : 0 ≤ (t398 : Int) := of_decide_eq_true (by first | (with_reducible assumption) | assumption); have q404 : t398 < (x12_1.length : Int) := of_decide_eq_true (by first | (with_reducible assumption) | assumption); obtain ⟨ad404, e404, hx404_0⟩ := Kd.at_int (Kd.R_reads' HO_12.out).2.2 t398 p404 q404; cases e404; replace p404 := eq_true p404; replace q404 := eq_true q404))
                (try simp only [Act.put, List.setIfInBounds_toArray, List.set_cons_zero, List.set_cons_succ])
                go_cut [85] (fun v85 wc => ∃ (kq : Nat) (x85_25 : Bool), v85 = .bool x85_25 ∧ Aside0 (dialtonelaw24_RouteNewest.j1 kq t384 (wrap64 ((t384.length : Int) - 1)) x12_1 t398 t399 t400 x85_25 = some r) ∧ Aside0 (kq ≤ k1) ∧ Aside0 (Kd.R (Kd.int .i64) 3 wc w.heap.size (fun k_ => some k_ ≠ ((.slice (some ad404) x12_1.length co27) : Value).ownBlock) (.slice Ao9 t384.length co9) t384) ∧ Aside0 (Kd.R (Kd.int .i64) 3 wc w.heap.size (fun k_ => some k_ ≠ ((.slice Ao9 t384.length co9) : Value).ownBlock) (.slice (some ad404) x12_1.length co27) x12_1) ∧ Aside0 (Kd.R k40 40 wc w.heap.size (fun _ => True) v402 t399) ∧ Aside0 (Below w.heap.size w wc))
                case first =>
                  have H := HC26.out
                  clear HC26
                  by_cases c29 : t401 = 0
                  · rw [if_pos c29] at H
                    have c29b0 : (t401 == 0) = true := beq_iff_eq.mpr c29
                    have c29b1 : (t401 != 0) = false := bne_eq_false_iff_eq.mpr c29
                    clear c29
                    (first | rw [c29b0] | (simp only [i64_w, i32_w]; rw [c29b0]) | rw [c29b1] | skip)
                    replace H := Option.bind_eq_some_iff.mp H
                    obtain ⟨t405, A300, H⟩ := H
                    replace H : (if t405 = true then (if (t399.length : Int) = 0 then (dialtonelaw24_RouteNewest.j1 k1 t384 (wrap64 ((t384.length : Int) - 1)) x12_1 t398 t399 t400 true) else (if 0 < (t399.length : Int) then (dialtonelaw24_RouteNewest.j1 k1 t384 (wrap64 ((t384.length : Int) - 1)) x12_1 t398 t399 t400 (!(((rd_T40 t399 0).f0) == t398) || (!(((rd_T40 t399 0).f1) == (wrap64 ((t384.length : Int) - 1)))))) else (none))) else (dialtonelaw24_RouteNewest.j1 k1 t384 (wrap64 ((t384.length : Int) - 1)) x12_1 t398 t399 t400 true)) = some r := H
                    have A30 := Aside0.mk A300
                    clear A300
                    by_cases c31 : t405 = true
                    · subst c31
                      have H1 : (if (t399.length : Int) = 0 then (dialtonelaw24_RouteNewest.j1 k1 t384 (wrap64 ((t384.length : Int) - 1)) x12_1 t398 t399 t400 true) else (if 0 < (t399.length : Int) then (dialtonelaw24_RouteNewest.j1 k1 t384 (wrap64 ((t384.length : Int) - 1)) x12_1 t398 t399 t400 (!(((rd_T40 t399 0).f0) == t398) || (!(((rd_T40 t399 0).f1) == (wrap64 ((t384.length : Int) - 1)))))) else (none))) = some r := by rw [if_pos rfl] at H; exact H
                      clear H
                      have H := H1
                      clear H1
                      by_cases c32 : (t399.length : Int) = 0
                      · rw [if_pos c32] at H
                        have c32b0 : ((t399.length : Int) == 0) = true := beq_iff_eq.mpr c32
                        have c32b1 : ((t399.length : Int) != 0) = false := bne_eq_false_iff_eq.mpr c32
                        clear c32
                        have H' := Aside0.mk H
                        clear H
                        go_wp2_with (first | (go_at_call 14; (with_reducible refine (route_Valid.calls _ _ t384 _ _ x12_1 0 true _ ?side1 ?side2 ?side3 ?side4 A30.out).mono ?_); (case side1 => repeat (first | exact (Kd.R_reads' HO_8.out).2.2 | (with_reducible refine Kd.C_alloc ?_ _) | (with_reducible refine Kd.C_drewN ?_ _) | (with_reducible refine Kd.C_drew ?_))); (case side2 => exact (Kd.R_reads' HO_8.out).2.1); (case side3 => repeat (first | exact (Kd.R_reads' HO_12.out).2.2 | (with_reducible refine Kd.C_alloc ?_ _) | (with_reducible refine Kd.C_drewN ?_ _) | (with_reducible refine Kd.C_drew ?_))); (case side4 => exact (Kd.R_reads' HO_12.out).2.1); rintro e w33 ⟨rfl, hb⟩; have n0_ := Aside0.mk (Kd.R_below (by (with_reducible repeat (first | apply Kd.R_alloc | apply Kd.R_drewN | apply Kd.R_drew)); exact HO_8.out) hb); have n1_ := Aside0.mk (Kd.R_below (by (with_reducible repeat (first | apply Kd.R_alloc | apply Kd.R_drewN | apply Kd.R_drew)); exact HO_12.out) hb); have n2_ := Aside0.mk (Kd.R_below (by (with_reducible repeat (first | apply Kd.R_alloc | apply Kd.R_drewN | apply Kd.R_drew)); exact HO403.out) hb); have n3_ := Aside0.mk (below_step (by repeat (first | (with_reducible first | exact HB.out | apply below_alloc | apply pw_below_drewN | apply below_drew1) | exact HB.out)) hb); clear HO_8; clear HO_12; clear HO403; clear HB; have HO_8 := n0_; have HO_12 := n1_; have HO403 := n2_; have HB := n3_; clear n0_ n1_ n2_ n3_; (try clear hb); (try clear hb2); (try clear hk); (try clear hi); obtain ⟨Ao34, co34, eo34⟩ := Kd.R_slice HO403.out; subst eo34))
                        go_meet
                        case rel => exact ⟨_, (true), (by first | rfl | (simp; done) | (simp [*]; done)), H', ⟨by have := HK1.out; first | omega | exact Nat.le_refl _⟩, ⟨by (with_reducible repeat (first | apply Kd.R_alloc | apply Kd.R_drewN | apply Kd.R_drew)); exact HO_8.out⟩, ⟨by (with_reducible repeat (first | apply Kd.R_alloc | apply Kd.R_drewN | apply Kd.R_drew)); exact HO_12.out⟩, ⟨by (with_reducible repeat (first | apply Kd.R_alloc | apply Kd.R_drewN | apply Kd.R_drew)); exact HO403.out⟩, ⟨by repeat (first | (with_reducible first | exact HB.out | apply below_alloc | apply pw_below_drewN | apply below_drew1) | exact HB.out)⟩⟩
                      · rw [if_neg c32] at H
                        have c32b0 : ((t399.length : Int) == 0) = false := beq_eq_false_iff_ne.mpr c32
                        have c32b1 : ((t399.length : Int) != 0) = true := bne_iff_ne.mpr c32
                        have c32b2 : ¬ (t399 = []) := fun h_ => c32 (by rw [h_]; rfl)
                        by_cases c35 : 0 < (t399.length : Int)
                        · rw [if_pos c35] at H
                          have c35b0 : decide (0 < (t399.length : Int)) = true := decide_eq_true c35
                          have c35b1 : decide (0 < t399.length) = true := decide_eq_true (by omega)
                          clear c35
                          have H' := Aside0.mk H
                          clear H
                          go_wp2_with (first | (go_at_call 14; (with_reducible refine (route_Valid.calls _ _ t384 _ _ x12_1 0 true _ ?side1 ?side2 ?side3 ?side4 A30.out).mono ?_); (case side1 => repeat (first | exact (Kd.R_reads' HO_8.out).2.2 | (with_reducible refine Kd.C_alloc ?_ _) | (with_reducible refine Kd.C_drewN ?_ _) | (with_reducible refine Kd.C_drew ?_))); (case side2 => exact (Kd.R_reads' HO_8.out).2.1); (case side3 => repeat (first | exact (Kd.R_reads' HO_12.out).2.2 | (with_reducible refine Kd.C_alloc ?_ _) | (with_reducible refine Kd.C_drewN ?_ _) | (with_reducible refine Kd.C_drew ?_))); (case side4 => exact (Kd.R_reads' HO_12.out).2.1); rintro e w36 ⟨rfl, hb⟩; have n0_ := Aside0.mk (Kd.R_below (by (with_reducible repeat (first | apply Kd.R_alloc | apply Kd.R_drewN | apply Kd.R_drew)); exact HO_8.out) hb); have n1_ := Aside0.mk (Kd.R_below (by (with_reducible repeat (first | apply Kd.R_alloc | apply Kd.R_drewN | apply Kd.R_drew)); exact HO_12.out) hb); have n2_ := Aside0.mk (Kd.R_below (by (with_reducible repeat (first | apply Kd.R_alloc | apply Kd.R_drewN | apply Kd.R_drew)); exact HO403.out) hb); have n3_ := Aside0.mk (below_step (by repeat (first | (with_reducible first | exact HB.out | apply below_alloc | apply pw_below_drewN | apply below_drew1) | exact HB.out)) hb); clear HO_8; clear HO_12; clear HO403; clear HB; have HO_8 := n0_; have HO_12 := n1_; have HO403 := n2_; have HB := n3_; clear n0_ n1_ n2_ n3_; (try clear hb); (try clear hb2); (try clear hk); (try clear hi); obtain ⟨Ao37, co37, eo37⟩ := Kd.R_slice HO403.out; subst eo37; have p406 : 0 ≤ (0 : Int) := (by omega); have q406 : 0 < (t399.length : Int) := of_decide_eq_true (by first | (with_reducible assumption) | assumption); obtain ⟨ad406, e406, hx406_0, hx406_1⟩ := at_T40 (Kd.R_reads' HO403.out).2.2 0 p406 q406; cases e406; have qi406 : (0 < t399.length) = True := eq_true (by omega); (try rw [show ((0 : Int)).toNat = 0 from rfl] at hx406_0); (try rw [show 0 * 2 = 0 from rfl] at hx406_0); (try rw [Addr.add_zero'] at hx406_0); (try rw [show ((0 : Int)).toNat = 0 from rfl] at hx406_1); (try rw [show 0 * 2 = 0 from rfl] at hx406_1); (try rw [Addr.add_zero'] at hx406_1); replace p406 := eq_true p406; replace q406 := eq_true q406))
                          go_meet
                          case rel => exact ⟨_, ((!(((rd_T40 t399 0).f0) == t398) || (!(((rd_T40 t399 0).f1) == (wrap64 ((t384.length : Int) - 1)))))), (by first | rfl | (simp; done) | (simp [*]; done)), H', ⟨by have := HK1.out; first | omega | exact Nat.le_refl _⟩, ⟨by (with_reducible repeat (first | apply Kd.R_alloc | apply Kd.R_drewN | apply Kd.R_drew)); exact HO_8.out⟩, ⟨by (with_reducible repeat (first | apply Kd.R_alloc | apply Kd.R_drewN | apply Kd.R_drew)); exact HO_12.out⟩, ⟨by (with_reducible repeat (first | apply Kd.R_alloc | apply Kd.R_drewN | apply Kd.R_drew)); exact HO403.out⟩, ⟨by repeat (first | (with_reducible first | exact HB.out | apply below_alloc | apply pw_below_drewN | apply below_drew1) | exact HB.out)⟩⟩
                        · rw [if_neg c35] at H
                          exact absurd H (by simp)
                    · replace c31 := Bool.eq_false_iff.mpr c31
                      subst c31
                      have H1 : (dialtonelaw24_RouteNewest.j1 k1 t384 (wrap64 ((t384.length : Int) - 1)) x12_1 t398 t399 t400 true) = some r := by rw [if_neg (show ¬ (false = true) by decide)] at H; exact H
                      clear H
                      have H := H1
                      clear H1
                      have H' := Aside0.mk H
                      clear H
                      go_wp2_with (first | (go_at_call 14; (with_reducible refine (route_Valid.calls _ _ t384 _ _ x12_1 0 false _ ?side1 ?side2 ?side3 ?side4 A30.out).mono ?_); (case side1 => repeat (first | exact (Kd.R_reads' HO_8.out).2.2 | (with_reducible refine Kd.C_alloc ?_ _) | (with_reducible refine Kd.C_drewN ?_ _) | (with_reducible refine Kd.C_drew ?_))); (case side2 => exact (Kd.R_reads' HO_8.out).2.1); (case side3 => repeat (first | exact (Kd.R_reads' HO_12.out).2.2 | (with_reducible refine Kd.C_alloc ?_ _) | (with_reducible refine Kd.C_drewN ?_ _) | (with_reducible refine Kd.C_drew ?_))); (case side4 => exact (Kd.R_reads' HO_12.out).2.1); rintro e w38 ⟨rfl, hb⟩; have n0_ := Aside0.mk (Kd.R_below (by (with_reducible repeat (first | apply Kd.R_alloc | apply Kd.R_drewN | apply Kd.R_drew)); exact HO_8.out) hb); have n1_ := Aside0.mk (Kd.R_below (by (with_reducible repeat (first | apply Kd.R_alloc | apply Kd.R_drewN | apply Kd.R_drew)); exact HO_12.out) hb); have n2_ := Aside0.mk (Kd.R_below (by (with_reducible repeat (first | apply Kd.R_alloc | apply Kd.R_drewN | apply Kd.R_drew)); exact HO403.out) hb); have n3_ := Aside0.mk (below_step (by repeat (first | (with_reducible first | exact HB.out | apply below_alloc | apply pw_below_drewN | apply below_drew1) | exact HB.out)) hb); clear HO_8; clear HO_12; clear HO403; clear HB; have HO_8 := n0_; have HO_12 := n1_; have HO403 := n2_; have HB := n3_; clear n0_ n1_ n2_ n3_; (try clear hb); (try clear hb2); (try clear hk); (try clear hi)))
                      go_meet
                      case rel => exact ⟨_, (true), (by first | rfl | (simp; done) | (simp [*]; done)), H', ⟨by have := HK1.out; first | omega | exact Nat.le_refl _⟩, ⟨by (with_reducible repeat (first | apply Kd.R_alloc | apply Kd.R_drewN | apply Kd.R_drew)); exact HO_8.out⟩, ⟨by (with_reducible repeat (first | apply Kd.R_alloc | apply Kd.R_drewN | apply Kd.R_drew)); exact HO_12.out⟩, ⟨by (with_reducible repeat (first | apply Kd.R_alloc | apply Kd.R_drewN | apply Kd.R_drew)); exact HO403.out⟩, ⟨by repeat (first | (with_reducible first | exact HB.out | apply below_alloc | apply pw_below_drewN | apply below_drew1) | exact HB.out)⟩⟩
                  · rw [if_neg c29] at H
                    have c29b0 : (t401 == 0) = false := beq_eq_false_iff_ne.mpr c29
                    have c29b1 : (t401 != 0) = true := bne_iff_ne.mpr c29
                    (first | rw [c29b0] | (simp only [i64_w, i32_w]; rw [c29b0]) | rw [c29b1] | skip)
                    have H' := Aside0.mk H
                    clear H
                    go_wp2
                    go_meet
                    case rel => exact ⟨_, (true), (by first | rfl | (simp; done) | (simp [*]; done)), H', ⟨by have := HK1.out; first | omega | exact Nat.le_refl _⟩, ⟨by (with_reducible repeat (first | apply Kd.R_alloc | apply Kd.R_drewN | apply Kd.R_drew)); exact HO_8.out⟩, ⟨by (with_reducible repeat (first | apply Kd.R_alloc | apply Kd.R_drewN | apply Kd.R_drew)); exact HO_12.out⟩, ⟨by (with_reducible repeat (first | apply Kd.R_alloc | apply Kd.R_drewN | apply Kd.R_drew)); exact HO403.out⟩, ⟨by repeat (first | (with_reducible first | exact HB.out | apply below_alloc | apply pw_below_drewN | apply below_drew1) | exact HB.out)⟩⟩
                case rest =>
                  clear HC26
                  try clear c1
                  try clear c2
                  try clear p2
                  try clear c3
                  try clear p4
                  try clear q4
                  try clear hx4
                  try clear qi4
                  try clear c5
                  try clear c6
                  try clear p6
                  try clear c10
                  try clear c10b0
                  try clear c11
                  try clear c12
                  try clear c12b0
                  try clear c12b1
                  try clear c13
                  try clear c14
                  try clear c14b0
                  try clear c14b1
                  try clear c15
                  try clear c16
                  try clear c17
                  try clear c21
                  try clear c21b0
                  try clear c22
                  try clear c22b0
                  try clear c23
                  try clear c23b0
                  try clear c29
                  try clear c29b0
                  try clear c29b1
                  try clear c31
                  try clear c32
                  try clear c32b0
                  try clear c32b1
                  try clear c32b2
                  try clear c35
                  try clear c35b0
                  try clear c35b1
                  try clear hx404_0
                  try clear hx406_0
                  try clear hx406_1
                  try clear p2
                  try clear p404
                  try clear p406
                  try clear p6
                  try clear q404
                  try clear q406
                  obtain ⟨kq, x85_25, rfl, HA, HJ25, HO_8, HO_12, HO_16, HB⟩ := hcut
                  cases kq with
                  | zero => exact absurd HA.out (by simp [dialtonelaw24_RouteNewest.j1])
                  | succ kj25 =>
                    have H := HA.out
                    clear HA
                    simp only [dialtonelaw24_RouteNewest.j1] at H
                    by_cases c39 : x85_25 = true
                    · subst c39
                      have H1 : (none) = some r := by rw [if_pos rfl] at H; exact H
                      clear H
                      have H := H1
                      clear H1
                      exact absurd H (by simp)
                    · replace c39 := Bool.eq_false_iff.mpr c39
                      subst c39
                      have H1 : (if 0 ≤ (wrap64 ((t384.length : Int) - 1)) then (if (wrap64 ((t384.length : Int) - 1)) < (t384.length : Int) then (if (rd t384 (wrap64 ((t384.length : Int) - 1))) = (-1) then (if t400 = 2 then (some ((t399.length : Int) == 1)) else (none)) else (if 0 ≤ (rd t384 (wrap64 ((t384.length : Int) - 1))) then (if (rd t384 (wrap64 ((t384.length : Int) - 1))) < (x12_1.length : Int) then (if (rd x12_1 (rd t384 (wrap64 ((t384.length : Int) - 1)))) = (-1) then (if t400 = 3 then (some ((t399.length : Int) == 1)) else (none)) else (if (rd t384 (wrap64 ((t384.length : Int) - 1))) = t398 then (if t400 = 1 then (some ((t399.length : Int) == 1)) else (none)) else (if t400 = 1 then (if (t399.length : Int) = 2 then (if 1 < (t399.length : Int) then (some (((rd_T40 t399 1).f0) == (rd t384 (wrap64 ((t384.length : Int) - 1))) && (((rd_T40 t399 1).f1) == (wrap64 ((t384.length : Int) - 1))))) else (none)) else (none)) else (none)))) else (none)) else (none))) else (none)) else (none)) = some r := by rw [if_neg (show ¬ (false = true) by decide)] at H; exact H
                      clear H
                      have H := H1
                      clear H1
                      obtain ⟨ji40, hji40⟩ : ∃ j_ : Int, (wrap64 ((t384.length : Int) - 1)) = j_ := ⟨_, rfl⟩
                      replace H : (if 0 ≤ (ji40) then (if (ji40) < (t384.length : Int) then (if (rd t384 (ji40)) = (-1) then (if t400 = 2 then (some ((t399.length : Int) == 1)) else (none)) else (if 0 ≤ (rd t384 (ji40)) then (if (rd t384 (ji40)) < (x12_1.length : Int) then (if (rd x12_1 (rd t384 (ji40))) = (-1) then (if t400 = 3 then (some ((t399.length : Int) == 1)) else (none)) else (if (rd t384 (ji40)) = t398 then (if t400 = 1 then (some ((t399.length : Int) == 1)) else (none)) else (if t400 = 1 then (if (t399.length : Int) = 2 then (if 1 < (t399.length : Int) then (some (((rd_T40 t399 1).f0) == (rd t384 (ji40)) && (((rd_T40 t399 1).f1) == (ji40)))) else (none)) else (none)) else (none)))) else (none)) else (none))) else (none)) else (none)) = some r := by first | (rw [hji40] at H; exact H) | (simp only [hji40] at H ⊢; exact H)
                      have hji40w : (IntKind.i64.wrap ((t384.length : Int) - 1)) = ji40 := (i64_w _).trans hji40
                      by_cases c41 : 0 ≤ (ji40)
                      · rw [if_pos c41] at H
                        have c41b0 : decide (0 ≤ (ji40)) = true := decide_eq_true c41
                        clear c41
                        by_cases c42 : (ji40) < (t384.length : Int)
                        · rw [if_pos c42] at H
                          have c42b0 : decide ((ji40) < (t384.length : Int)) = true := decide_eq_true c42
                          clear c42
                          by_cases c43 : (rd t384 (ji40)) = (-1)
                          · rw [if_pos c43] at H
                            have c43b0 : ((rd t384 (ji40)) == (-1)) = true := beq_iff_eq.mpr c43
                            have c43b1 : ((rd t384 (ji40)) != (-1)) = false := bne_eq_false_iff_eq.mpr c43
                            clear c43
                            by_cases c44 : t400 = 2
                            · rw [if_pos c44] at H
                              have c44b0 : (t400 == 2) = true := beq_iff_eq.mpr c44
                              have c44b1 : (t400 != 2) = false := bne_eq_false_iff_eq.mpr c44
                              clear c44
                              obtain rfl := Option.some.inj H
                              have p407 : 0 ≤ ((ji40) : Int) := of_decide_eq_true (by first | (with_reducible assumption) | assumption)
                              have q407 : (ji40) < (t384.length : Int) := of_decide_eq_true (by first | (with_reducible assumption) | assumption)
                              (try (obtain ⟨Ao_, co_, eo_⟩ := Kd.R_slice HO_8.out; cases eo_))
                              obtain ⟨ad407, e407, hx407_0⟩ := Kd.at_int (Kd.R_reads' HO_8.out).2.2 (ji40) p407 q407
                              cases e407
                              replace p407 := eq_true p407
                              replace q407 := eq_true q407
                              obtain ⟨Ao45, co45, eo45⟩ := Kd.R_slice HO_16.out
                              subst eo45
                              go_wp2
                              go_ret
                              exact ⟨by first | rfl | (simp [errW_none, errW_some] <;> rfl) | (simp only [← hji40]; first | rfl | (simp [errW_none, errW_some] <;> rfl)) | (simp [*, errW_none, errW_some] <;> rfl), by repeat (first | (with_reducible first | exact HB.out | apply below_alloc | apply pw_below_drewN | apply below_drew1) | exact HB.out)⟩
                            · rw [if_neg c44] at H
                              exact absurd H (by simp)
                          · rw [if_neg c43] at H
                            have c43b0 : ((rd t384 (ji40)) == (-1)) = false := beq_eq_false_iff_ne.mpr c43
                            have c43b1 : ((rd t384 (ji40)) != (-1)) = true := bne_iff_ne.mpr c43
                            by_cases c46 : 0 ≤ (rd t384 (ji40))
                            · rw [if_pos c46] at H
                              have c46b0 : decide (0 ≤ (rd t384 (ji40))) = true := decide_eq_true c46
                              clear c46
                              by_cases c47 : (rd t384 (ji40)) < (x12_1.length : Int)
                              · rw [if_pos c47] at H
                                have c47b0 : decide ((rd t384 (ji40)) < (x12_1.length : Int)) = true := decide_eq_true c47
                                clear c47
                                by_cases c48 : (rd x12_1 (rd t384 (ji40))) = (-1)
                                · rw [if_pos c48] at H
                                  have c48b0 : ((rd x12_1 (rd t384 (ji40))) == (-1)) = true := beq_iff_eq.mpr c48
                                  have c48b1 : ((rd x12_1 (rd t384 (ji40))) != (-1)) = false := bne_eq_false_iff_eq.mpr c48
                                  clear c48
                                  by_cases c49 : t400 = 3
                                  · rw [if_pos c49] at H
                                    have c49b0 : (t400 == 3) = true := beq_iff_eq.mpr c49
                                    have c49b1 : (t400 != 3) = false := bne_eq_false_iff_eq.mpr c49
                                    clear c49
                                    obtain rfl := Option.some.inj H
                                    have p407 : 0 ≤ ((ji40) : Int) := of_decide_eq_true (by first | (with_reducible assumption) | assumption)
                                    have q407 : (ji40) < (t384.length : Int) := of_decide_eq_true (by first | (with_reducible assumption) | assumption)
                                    (try (obtain ⟨Ao_, co_, eo_⟩ := Kd.R_slice HO_8.out; cases eo_))
                                    obtain ⟨ad407, e407, hx407_0⟩ := Kd.at_int (Kd.R_reads' HO_8.out).2.2 (ji40) p407 q407
                                    cases e407
                                    replace p407 := eq_true p407
                                    replace q407 := eq_true q407
                                    have p408 : 0 ≤ ((rd t384 (ji40)) : Int) := of_decide_eq_true (by first | (with_reducible assumption) | assumption)
                                    have q408 : (rd t384 (ji40)) < (x12_1.length : Int) := of_decide_eq_true (by first | (with_reducible assumption) | assumption)
                                    (try (obtain ⟨Ao_, co_, eo_⟩ := Kd.R_slice HO_12.out; cases eo_))
                                    obtain ⟨ad408, e408, hx408_0⟩ := Kd.at_int (Kd.R_reads' HO_12.out).2.2 (rd t384 (ji40)) p408 q408
                                    obtain rfl : ad404 = ad408 := (by injection e408)
                                    replace p408 := eq_true p408
                                    replace q408 := eq_true q408
                                    obtain ⟨Ao50, co50, eo50⟩ := Kd.R_slice HO_16.out
                                    subst eo50
                                    go_wp2
                                    go_ret
                                    exact ⟨by first | rfl | (simp [errW_none, errW_some] <;> rfl) | (simp only [← hji40]; first | rfl | (simp [errW_none, errW_some] <;> rfl)) | (simp [*, errW_none, errW_some] <;> rfl), by repeat (first | (with_reducible first | exact HB.out | apply below_alloc | apply pw_below_drewN | apply below_drew1) | exact HB.out)⟩
                                  · rw [if_neg c49] at H
                                    exact absurd H (by simp)
                                · rw [if_neg c48] at H
                                  have c48b0 : ((rd x12_1 (rd t384 (ji40))) == (-1)) = false := beq_eq_false_iff_ne.mpr c48
                                  have c48b1 : ((rd x12_1 (rd t384 (ji40))) != (-1)) = true := bne_iff_ne.mpr c48
                                  by_cases c51 : (rd t384 (ji40)) = t398
                                  · rw [if_pos c51] at H
                                    have c51b0 : ((rd t384 (ji40)) == t398) = true := beq_iff_eq.mpr c51
                                    have c51b1 : ((rd t384 (ji40)) != t398) = false := bne_eq_false_iff_eq.mpr c51
                                    clear c51
                                    by_cases c52 : t400 = 1
                                    · rw [if_pos c52] at H
                                      have c52b0 : (t400 == 1) = true := beq_iff_eq.mpr c52
                                      have c52b1 : (t400 != 1) = false := bne_eq_false_iff_eq.mpr c52
                                      clear c52
                                      obtain rfl := Option.some.inj H
                                      have p407 : 0 ≤ ((ji40) : Int) := of_decide_eq_true (by first | (with_reducible assumption) | assumption)
                                      have q407 : (ji40) < (t384.length : Int) := of_decide_eq_true (by first | (with_reducible assumption) | assumption)
                                      (try (obtain ⟨Ao_, co_, eo_⟩ := Kd.R_slice HO_8.out; cases eo_))
                                      obtain ⟨ad407, e407, hx407_0⟩ := Kd.at_int (Kd.R_reads' HO_8.out).2.2 (ji40) p407 q407
                                      cases e407
                                      replace p407 := eq_true p407
                                      replace q407 := eq_true q407
                                      have p408 : 0 ≤ ((rd t384 (ji40)) : Int) := of_decide_eq_true (by first | (with_reducible assumption) | assumption)
                                      have q408 : (rd t384 (ji40)) < (x12_1.length : Int) := of_decide_eq_true (by first | (with_reducible assumption) | assumption)
                                      (try (obtain ⟨Ao_, co_, eo_⟩ := Kd.R_slice HO_12.out; cases eo_))
                                      obtain ⟨ad408, e408, hx408_0⟩ := Kd.at_int (Kd.R_reads' HO_12.out).2.2 (rd t384 (ji40)) p408 q408
                                      obtain rfl : ad404 = ad408 := (by injection e408)
                                      replace p408 := eq_true p408
                                      replace q408 := eq_true q408
                                      obtain ⟨Ao53, co53, eo53⟩ := Kd.R_slice HO_16.out
                                      subst eo53
                                      go_wp2
                                      go_ret
                                      exact ⟨by first | rfl | (simp [errW_none, errW_some] <;> rfl) | (simp only [← hji40]; first | rfl | (simp [errW_none, errW_some] <;> rfl)) | (simp [*, errW_none, errW_some] <;> rfl), by repeat (first | (with_reducible first | exact HB.out | apply below_alloc | apply pw_below_drewN | apply below_drew1) | exact HB.out)⟩
                                    · rw [if_neg c52] at H
                                      exact absurd H (by simp)
                                  · rw [if_neg c51] at H
                                    have c51b0 : ((rd t384 (ji40)) == t398) = false := beq_eq_false_iff_ne.mpr c51
                                    have c51b1 : ((rd t384 (ji40)) != t398) = true := bne_iff_ne.mpr c51
                                    by_cases c54 : t400 = 1
                                    · rw [if_pos c54] at H
                                      have c54b0 : (t400 == 1) = true := beq_iff_eq.mpr c54
                                      have c54b1 : (t400 != 1) = false := bne_eq_false_iff_eq.mpr c54
                                      clear c54
                                      by_cases c55 : (t399.length : Int) = 2
                                      · rw [if_pos c55] at H
                                        have c55b0 : ((t399.length : Int) == 2) = true := beq_iff_eq.mpr c55
                                        have c55b1 : ((t399.length : Int) != 2) = false := bne_eq_false_iff_eq.mpr c55
                                        clear c55
                                        by_cases c56 : 1 < (t399.length : Int)
                                        · rw [if_pos c56] at H
                                          have c56b0 : decide (1 < (t399.length : Int)) = true := decide_eq_true c56
                                          have c56b1 : decide (1 < t399.length) = true := decide_eq_true (by omega)
                                          clear c56
                                          obtain rfl := Option.some.inj H
                                          have p407 : 0 ≤ ((ji40) : Int) := of_decide_eq_true (by first | (with_reducible assumption) | assumption)
                                          have q407 : (ji40) < (t384.length : Int) := of_decide_eq_true (by first | (with_reducible assumption) | assumption)
                                          (try (obtain ⟨Ao_, co_, eo_⟩ := Kd.R_slice HO_8.out; cases eo_))
                                          obtain ⟨ad407, e407, hx407_0⟩ := Kd.at_int (Kd.R_reads' HO_8.out).2.2 (ji40) p407 q407
                                          cases e407
                                          replace p407 := eq_true p407
                                          replace q407 := eq_true q407
                                          have p408 : 0 ≤ ((rd t384 (ji40)) : Int) := of_decide_eq_true (by first | (with_reducible assumption) | assumption)
                                          have q408 : (rd t384 (ji40)) < (x12_1.length : Int) := of_decide_eq_true (by first | (with_reducible assumption) | assumption)
                                          (try (obtain ⟨Ao_, co_, eo_⟩ := Kd.R_slice HO_12.out; cases eo_))
                                          obtain ⟨ad408, e408, hx408_0⟩ := Kd.at_int (Kd.R_reads' HO_12.out).2.2 (rd t384 (ji40)) p408 q408
                                          obtain rfl : ad404 = ad408 := (by injection e408)
                                          replace p408 := eq_true p408
                                          replace q408 := eq_true q408
                                          obtain ⟨Ao57, co57, eo57⟩ := Kd.R_slice HO_16.out
                                          subst eo57
                                          have p409 : 0 ≤ (1 : Int) := (by omega)
                                          have q409 : 1 < (t399.length : Int) := of_decide_eq_true (by first | (with_reducible assumption) | assumption)
                                          (try (obtain ⟨Ao_, co_, eo_⟩ := Kd.R_slice HO_16.out; cases eo_))
                                          obtain ⟨ad409, e409, hx409_0, hx409_1⟩ := at_T40 (Kd.R_reads' HO_16.out).2.2 1 p409 q409
                                          cases e409
                                          (try simp only [show (1 : Int).toNat = 1 from rfl, Nat.reduceMul, Nat.reduceEqDiff, Go.Addr.add, ↓reduceIte] at hx409_0)
                                          (try simp only [show (1 : Int).toNat = 1 from rfl, Nat.reduceMul, Nat.reduceEqDiff, Go.Addr.add, ↓reduceIte] at hx409_1)
                                          have qi409 : (1 < t399.length) = True := eq_true (by omega)
                                          (try rw [show ((1 : Int)).toNat = 1 from rfl] at hx409_0)
                                          (try rw [show 1 * 2 = 2 from rfl] at hx409_0)
                                          (try rw [show ((1 : Int)).toNat = 1 from rfl] at hx409_1)
                                          (try rw [show 1 * 2 = 2 from rfl] at hx409_1)
                                          replace p409 := eq_true p409
                                          replace q409 := eq_true q409
                                          go_wp2
                                          go_ret
                                          exact ⟨by first | rfl | (simp [errW_none, errW_some] <;> rfl) | (simp only [← hji40]; first | rfl | (simp [errW_none, errW_some] <;> rfl)) | (simp [*, errW_none, errW_some] <;> rfl), by repeat (first | (with_reducible first | exact HB.out | apply below_alloc | apply pw_below_drewN | apply below_drew1) | exact HB.out)⟩
                                        · rw [if_neg c56] at H
                                          exact absurd H (by simp)
                                      · rw [if_neg c55] at H
                                        exact absurd H (by simp)
                                    · rw [if_neg c54] at H
                                      exact absurd H (by simp)
                              · rw [if_neg c47] at H
                                exact absurd H (by simp)
                            · rw [if_neg c46] at H
                              exact absurd H (by simp)
                        · rw [if_neg c42] at H
                          exact absurd H (by simp)
                      · rw [if_neg c41] at H
                        exact absurd H (by simp)
            · rw [if_neg c22] at H
              exact absurd H (by simp)
          · rw [if_neg c21] at H
            exact absurd H (by simp)
  · replace c5 := Bool.eq_false_iff.mpr c5
    subst c5
    have H1 : (none) = some r := by rw [if_neg (show ¬ (false = true) by decide)] at H; exact H
    clear H
    have H := H1
    clear H1
    exact absurd H (by simp)

/-- THE ONE PURE STATEMENT of dialtonelaw24_RouteNewest: yours. -/
def dialtonelaw24_RouteNewest.Pure : Prop := ∀ (l0 : List Int) (a1 : Int) (a2 : Int), l0.length ≤ maxLen → l0.length * 8 ≤ 140737488351232 → (∀ x ∈ l0, (Lit.int .i64 x).wf = true) → (Lit.int .i64 a1).wf = true → (Lit.int .i64 a2).wf = true → ∃ k, dialtonelaw24_RouteNewest.f k l0 a1 a2 = some true
theorem dialtonelaw24_RouteNewest.walk (P : dialtonelaw24_RouteNewest.Pure) (a0 : Option Addr) (len0 cap0 : Nat) (z0 : List Int) (a1 : Int) (a2 : Int) (w : World) (w0 : (a0 = none ∧ len0 = 0 ∧ cap0 = 0 ∧ z0 = []) ∨ ∃ x, a0 = some x ∧ len0 ≤ cap0 ∧ cap0 ≤ maxLen ∧ z0.length = cap0 ∧ (∀ i, i < z0.length → w.cell? (x.add i) = some (.int .i64 (z0.getD i 0))) ∧ ∀ n ∈ z0, (Lit.int .i64 n).wf = true) (y0 : len0 * 8 ≤ 140737488351232) (w1 : (Lit.int .i64 a1).wf = true) (w2 : (Lit.int .i64 a2).wf = true) :
    Calls Try.prog 6 #[.slice a0 len0 cap0, .int .i64 a1, .int .i64 a2] w fun e w' => e = .returned (.bool true) ∧ Below w.heap.size w w' := by
  obtain ⟨l0, rfl, hr0, hm0, hw0, hc0⟩ := ReadsInt.ofRowC w0
  obtain ⟨k, h⟩ := P l0 a1 a2 hm0 y0 hw0 w1 w2
  refine (dialtonelaw24_RouteNewest.calls k _ _ l0 a1 a2 true w (Kd.C_of_reads (d := (0 : Int)) (h1 := fun _ => rfl) hr0) hc0 h).mono ?_
  rintro e w' ⟨rfl, hd⟩
  exact ⟨rfl, hd⟩

end Go.Proofs.Ytmiahmpobpokmaa.P
