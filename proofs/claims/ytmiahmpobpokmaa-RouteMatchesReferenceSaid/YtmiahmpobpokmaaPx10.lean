-- PRINTED by print.py (a twelfth state) out of the translation. Not trusted: Lean checks it.
import Derived.Test.YtmiahmpobpokmaaPx0
import Derived.Test.YtmiahmpobpokmaaPx2
import Derived.Test.YtmiahmpobpokmaaPx3
namespace Go.Proofs.Ytmiahmpobpokmaa.P
open Go.RowKit Go.Proofs.YtmiahmpobpokmaaW.PrintWords Go.Proofs.YtmiahmpobpokmaaW.PrintLast Go.Proofs.YtmiahmpobpokmaaW.PrintMore Go.Proofs.YtmiahmpobpokmaaH Go.Proofs.YtmiahmpobpokmaaR
attribute [local go_sem] max2_int min2_int max_two min_two max_three min_three max_four min_four   -- for this text's walks alone
set_option linter.unusedVariables false
set_option linter.unusedSimpArgs false

/-! ### route_Blame: function 26 -/
def badHop (h : List Int) (n : Nat) (i : Nat) (x y : S40) : Bool :=
  !(inB x.f0 0 7) || !(inB x.f1 0 ((h.length : Int) - 1)) || (decide (0 < i) && (!(x.f0 == rd h y.f1) || decide (x.f1 < y.f1))) || (decide (i + 1 < n) && (rd h x.f1 == x.f0 || rd h x.f1 == -1))
def blameFrom (h : List Int) (n : Nat) : Nat → S40 → List S40 → Int
  | _, _, [] => -1
  | i, y, x :: l => if badHop h n i x y = true then i else blameFrom h n (i + 1) x l
def route_Blame.f (l0 : List Int) (l1 : List S40) : Option Int := some (if holdersB l0 = true ∧ l1 ≠ [] then blameFrom l0 l1.length 0 z40 l1 else -2)
theorem badHop_eq {h : List Int} {n i : Nat} {x y : S40} (b1 : inB x.f0 0 7 = true) (b2 : inB x.f1 0 ((h.length : Int) - 1) = true) (b3 : (decide (0 < i) && (!(x.f0 == rd h y.f1) || decide (x.f1 < y.f1))) = false) :
    badHop h n i x y = (decide (i + 1 < n) && (rd h x.f1 == x.f0 || rd h x.f1 == -1)) := by
  unfold badHop
  rw [b1, b2, b3]
  rfl
set_option maxHeartbeats 8000000 in
theorem route_Blame.c43 (B1 B2 : Nat) (A0 : Option Addr) (c0 : Nat) (l0 : List Int) (A1 : Option Addr) (c1 : Nat) (l1 : List S40) (i : Nat) (x y : S40) (w : World)
    (hr0 : Kd.C (Kd.int .i64) w A0 l0.length l0) (hc0 : l0.length ≤ c0) (hr1 : Kd.C k40 w A1 l1.length l1) (hc1 : l1.length ≤ c1)
    (hb1 : Boxed w B1 22 (.slice A0 l0.length c0)) (hb2 : Boxed w B2 23 (.slice A1 l1.length c1)) (hi : i < l1.length) (hl0 : l0.length ≤ 30)
    (hy : 0 < i → rd_T40 l1 ((i : Int) - 1) = y ∧ inB y.f1 0 ((l0.length : Int) - 1) = true) :
    Calls Try.prog 43 #[.int .i64 (i : Int), .agg #[.int .i64 x.f0, .int .i64 x.f1], .pointer (some ⟨B1, 0, none⟩), .pointer (some ⟨B2, 0, none⟩)] w fun e w' => e = .returned (.bool (badHop l0 l1.length i x y)) ∧ Below w.heap.size w w' := by
  have hm1 := Kd.C_max hr1
  have hcb1 : ∀ o, (w.alloc o).cell? ⟨B1, 0, none⟩ = _ := fun o => (hb1.alloc o).cell
  have hcb2 : ∀ o, (w.alloc o).cell? ⟨B2, 0, none⟩ = _ := fun o => (hb2.alloc o).cell
  have HB1 := Aside0.mk hb1
  have HB2 := Aside0.mk hb2
  have HR0 := Aside0.mk hr0
  have HR1 := Aside0.mk hr1
  clear hb1 hb2 hr0 hr1
  cases h1 : inB x.f0 0 7 with
  | false =>
    have HF := Aside0.mk (show badHop l0 l1.length i x y = true by simp [badHop, h1])
    go_enter Try.func43, Try.ntmps43
    go_wp2_with (go_at_call 33; refine (route_isWithin.calls _ _ _ _ _ (route_isWithin.tells _ _ _)).mono ?_; rintro e w' ⟨rfl, m, rfl⟩)
    go_ret
    exact ⟨by rw [HF.out]; simp, by repeat (first | exact Below.refl _ _ | apply pw_below_drewN | apply below_alloc)⟩
  | true =>
    cases h2 : inB x.f1 0 ((l0.length : Int) - 1) with
    | false =>
      have HF := Aside0.mk (show badHop l0 l1.length i x y = true by simp [badHop, h2])
      go_enter Try.func43, Try.ntmps43
      go_wp2_with (go_at_call 33; refine (route_isWithin.calls _ _ _ _ _ (route_isWithin.tells _ _ _)).mono ?_; rintro e w' ⟨rfl, m, rfl⟩)
      go_ret
      exact ⟨by rw [HF.out]; simp, by repeat (first | exact Below.refl _ _ | apply pw_below_drewN | apply below_alloc)⟩
    | true =>
      have hx1 : 0 ≤ x.f1 := by simp [inB] at h2; omega
      have hx2 : x.f1 < l0.length := by simp [inB] at h2; omega
      obtain ⟨ad, e, hx⟩ := Kd.at_int HR0.out x.f1 hx1 hx2
      cases e
      have hxx : ∀ o, (w.alloc o).cell? (ad.add x.f1.toNat) = _ := fun o => pw_cell_below (below_alloc (Below.refl _ _) o) hx
      clear hx
      have hz := decide_eq_true hx1
      by_cases hi0 : 0 < i
      · obtain ⟨hy1, hy2⟩ := hy hi0
        have hy3 : 0 ≤ y.f1 := by simp [inB] at hy2; omega
        have hy4 : y.f1 < l0.length := by simp [inB] at hy2; omega
        obtain ⟨_, e, hv⟩ := Kd.at_int HR0.out y.f1 hy3 hy4
        cases e
        have hvv : ∀ o, (w.alloc o).cell? (ad.add y.f1.toNat) = _ := fun o => pw_cell_below (below_alloc (Below.refl _ _) o) hv
        obtain ⟨ad1, e, hu0, hu1⟩ := at_T40 HR1.out ((i : Int) - 1) (by omega) (by omega)
        cases e
        rw [show ((i : Int) - 1).toNat = i - 1 by omega] at hu1
        rw [hy1] at hu1
        have huu : ∀ o, (w.alloc o).cell? ⟨(ad1.add ((i - 1) * 2)).block, (ad1.add ((i - 1) * 2)).off + 1, none⟩ = _ := fun o => pw_cell_below (below_alloc (Below.refl _ _) o) hu1
        have hd0 : decide (0 < (i : Int)) = true := decide_eq_true (by omega)
        have hd1 : decide (0 < i) = true := decide_eq_true hi0
        clear hy hv hu0 hu1
        by_cases c1 : x.f0 = rd l0 y.f1
        · have hc1b := beq_iff_eq.mpr c1
          have hc1n := bne_eq_false_iff_eq.mpr c1
          have C1 := Aside0.mk c1
          clear c1
          by_cases c2 : x.f1 < y.f1
          · have hc2 := decide_eq_true c2
            have HF := Aside0.mk (show badHop l0 l1.length i x y = true by simp [badHop, hi0, c2])
            clear c2
            go_enter Try.func43, Try.ntmps43
            go_wp2_with (go_at_call 33; refine (route_isWithin.calls _ _ _ _ _ (route_isWithin.tells _ _ _)).mono ?_; rintro e w' ⟨rfl, m, rfl⟩)
            go_quiet (fail)
            go_wp2
            go_ret
            exact ⟨by rw [HF.out]; simp, by repeat (first | exact Below.refl _ _ | apply pw_below_drewN | apply below_alloc)⟩
          · have hc2 := decide_eq_false c2
            have B3 : (decide (0 < i) && (!(x.f0 == rd l0 y.f1) || decide (x.f1 < y.f1))) = false := by rw [hd1, hc1b, hc2]; rfl
            clear c2
            by_cases c3 : i + 1 < l1.length
            · have hc3 : decide ((i : Int) < (l1.length : Int) - 1) = true := decide_eq_true (by omega)
              by_cases c4 : rd l0 x.f1 = x.f0
              · have hc4b := beq_iff_eq.mpr c4
                have HF := Aside0.mk (show badHop l0 l1.length i x y = true by rw [badHop_eq h1 h2 B3]; simp [c3, c4])
                clear c3 c4 B3
                go_enter Try.func43, Try.ntmps43
                go_wp2_with (go_at_call 33; refine (route_isWithin.calls _ _ _ _ _ (route_isWithin.tells _ _ _)).mono ?_; rintro e w' ⟨rfl, m, rfl⟩)
                go_quiet (fail)
                go_wp2
                go_quiet (fail)
                go_wp2
                go_ret
                exact ⟨by rw [HF.out]; simp, by repeat (first | exact Below.refl _ _ | apply pw_below_drewN | apply below_alloc)⟩
              · have hc4b := beq_eq_false_iff_ne.mpr c4
                have HF := Aside0.mk (show badHop l0 l1.length i x y = (rd l0 x.f1 == -1) by rw [badHop_eq h1 h2 B3]; simp [c3, c4])
                clear c3 c4 B3
                go_enter Try.func43, Try.ntmps43
                go_wp2_with (go_at_call 33; refine (route_isWithin.calls _ _ _ _ _ (route_isWithin.tells _ _ _)).mono ?_; rintro e w' ⟨rfl, m, rfl⟩)
                go_quiet (fail)
                go_wp2
                go_quiet (fail)
                go_wp2
                go_ret
                exact ⟨by rw [HF.out]; simp, by repeat (first | exact Below.refl _ _ | apply pw_below_drewN | apply below_alloc)⟩
            · have hc3 : decide ((i : Int) < (l1.length : Int) - 1) = false := decide_eq_false (by omega)
              have HF := Aside0.mk (show badHop l0 l1.length i x y = false by rw [badHop_eq h1 h2 B3]; simp [c3])
              clear c3 B3
              go_enter Try.func43, Try.ntmps43
              go_wp2_with (go_at_call 33; refine (route_isWithin.calls _ _ _ _ _ (route_isWithin.tells _ _ _)).mono ?_; rintro e w' ⟨rfl, m, rfl⟩)
              go_quiet (fail)
              go_wp2
              go_ret
              exact ⟨by rw [HF.out]; simp, by repeat (first | exact Below.refl _ _ | apply pw_below_drewN | apply below_alloc)⟩
        · have hc1b := beq_eq_false_iff_ne.mpr c1
          have hc1n := bne_iff_ne.mpr c1
          have HF := Aside0.mk (show badHop l0 l1.length i x y = true by simp [badHop, hi0, c1])
          clear c1
          go_enter Try.func43, Try.ntmps43
          go_wp2_with (go_at_call 33; refine (route_isWithin.calls _ _ _ _ _ (route_isWithin.tells _ _ _)).mono ?_; rintro e w' ⟨rfl, m, rfl⟩)
          go_quiet (fail)
          go_wp2
          go_ret
          exact ⟨by rw [HF.out]; simp, by repeat (first | exact Below.refl _ _ | apply pw_below_drewN | apply below_alloc)⟩
      · have hd0 : decide (0 < (i : Int)) = false := decide_eq_false (by omega)
        have hd1 : decide (0 < i) = false := decide_eq_false hi0
        have B3 : (decide (0 < i) && (!(x.f0 == rd l0 y.f1) || decide (x.f1 < y.f1))) = false := by rw [hd1]; rfl
        clear hy
        by_cases c3 : i + 1 < l1.length
        · have hc3 : decide ((i : Int) < (l1.length : Int) - 1) = true := decide_eq_true (by omega)
          by_cases c4 : rd l0 x.f1 = x.f0
          · have hc4b := beq_iff_eq.mpr c4
            have HF := Aside0.mk (show badHop l0 l1.length i x y = true by rw [badHop_eq h1 h2 B3]; simp [c3, c4])
            clear c3 c4 B3
            go_enter Try.func43, Try.ntmps43
            go_wp2_with (go_at_call 33; refine (route_isWithin.calls _ _ _ _ _ (route_isWithin.tells _ _ _)).mono ?_; rintro e w' ⟨rfl, m, rfl⟩)
            go_quiet (fail)
            go_wp2
            go_quiet (fail)
            go_wp2
            go_ret
            exact ⟨by rw [HF.out]; simp, by repeat (first | exact Below.refl _ _ | apply pw_below_drewN | apply below_alloc)⟩
          · have hc4b := beq_eq_false_iff_ne.mpr c4
            have HF := Aside0.mk (show badHop l0 l1.length i x y = (rd l0 x.f1 == -1) by rw [badHop_eq h1 h2 B3]; simp [c3, c4])
            clear c3 c4 B3
            go_enter Try.func43, Try.ntmps43
            go_wp2_with (go_at_call 33; refine (route_isWithin.calls _ _ _ _ _ (route_isWithin.tells _ _ _)).mono ?_; rintro e w' ⟨rfl, m, rfl⟩)
            go_quiet (fail)
            go_wp2
            go_quiet (fail)
            go_wp2
            go_ret
            exact ⟨by rw [HF.out]; simp, by repeat (first | exact Below.refl _ _ | apply pw_below_drewN | apply below_alloc)⟩
        · have hc3 : decide ((i : Int) < (l1.length : Int) - 1) = false := decide_eq_false (by omega)
          have HF := Aside0.mk (show badHop l0 l1.length i x y = false by rw [badHop_eq h1 h2 B3]; simp [c3])
          clear c3 B3
          go_enter Try.func43, Try.ntmps43
          go_wp2_with (go_at_call 33; refine (route_isWithin.calls _ _ _ _ _ (route_isWithin.tells _ _ _)).mono ?_; rintro e w' ⟨rfl, m, rfl⟩)
          go_quiet (fail)
          go_wp2
          go_ret
          exact ⟨by rw [HF.out]; simp, by repeat (first | exact Below.refl _ _ | apply pw_below_drewN | apply below_alloc)⟩
set_option maxHeartbeats 8000000 in
theorem route_Blame.c42 (B1 B2 : Nat) (A0 : Option Addr) (c0 : Nat) (l0 : List Int) (A1 : Option Addr) (c1 : Nat) (l1 : List S40) (w : World)
    (hr0 : Kd.C (Kd.int .i64) w A0 l0.length l0) (hc0 : l0.length ≤ c0) (hr1 : Kd.C k40 w A1 l1.length l1) (hc1 : l1.length ≤ c1)
    (hb1 : Boxed w B1 22 (.slice A0 l0.length c0)) (hb2 : Boxed w B2 23 (.slice A1 l1.length c1)) (hl0 : l0.length ≤ 30) :
    Calls Try.prog 42 #[.slice A1 l1.length c1, .func (.func 43) #[] #[.pointer (some ⟨B1, 0, none⟩), .pointer (some ⟨B2, 0, none⟩)]] w fun e w' => e = .returned (.int .i64 (blameFrom l0 l1.length 0 z40 l1)) ∧ Below w.heap.size w w' := by
  have hm1 := Kd.C_max hr1
  have HR0 := Aside0.mk hr0
  have HR1 := Aside0.mk hr1
  have HB1 := Aside0.mk hb1
  have HB2 := Aside0.mk hb2
  clear hr0 hr1 hb1 hb2
  generalize hz : z40 = z0
  clear hz
  go_enter Try.func42, Try.ntmps42
  go_wp2
  go_loopw [9] (fun v wr => ∃ (i : Nat) (y : S40), v = .int .i64 (i : Int) ∧ i ≤ l1.length ∧ Aside0 (blameFrom l0 l1.length 0 z0 l1 = blameFrom l0 l1.length i y (l1.drop i)) ∧ Aside0 (0 < i → rd_T40 l1 ((i : Int) - 1) = y ∧ inB y.f1 0 ((l0.length : Int) - 1) = true) ∧ Below w.heap.size w wr) (fun v _ => (l1.length - intOf v).toNat)
  case atStart => exact ⟨0, z0, rfl, by omega, ⟨rfl⟩, ⟨fun h => by omega⟩, Below.refl _ _⟩
  case round =>
    obtain ⟨i, y, rfl, hi, HE, HY, hB⟩ := hrel
    by_cases hlt : i < l1.length
    · obtain ⟨ad, e, hu0, hu1⟩ := at_T40 (Kd.C_below HR1.out hB) (i : Int) (by omega) (by omega)
      cases e
      rw [Int.toNat_natCast] at hu0 hu1
      have hdrop : l1.drop i = rd_T40 l1 i :: l1.drop (i + 1) := by
        rw [List.drop_eq_getElem_cons hlt]
        simp [rd_T40, hlt]
      generalize hx : rd_T40 l1 (i : Int) = x at hu0 hu1 hdrop
      have HX := Aside0.mk hx
      have HDR := Aside0.mk hdrop
      clear hx hdrop
      have hcall := fun (W : World) (hW : Below w.heap.size w W) => route_Blame.c43 B1 B2 A0 c0 l0 (some ad) c1 l1 i x y W (Kd.C_below HR0.out hW) hc0 (Kd.C_below HR1.out hW) hc1 ((hW.block _ HB1.out.lt).trans HB1.out) ((hW.block _ HB2.out.lt).trans HB2.out) hlt hl0 HY.out
      have HC := Aside0.mk hcall
      clear hcall
      cases hb : badHop l0 l1.length i x y with
      | true =>
        go_wp2_with (go_at_call 43; refine (HC.out _ (below_alloc hB _)).mono ?_; rintro e w2 ⟨rfl, hk2⟩)
        go_ret
        refine ⟨?_, (below_alloc hB _).trans (hk2.mono (below_alloc hB _).size)⟩
        rw [HE.out, HDR.out]
        simp [blameFrom, hb]
      | false =>
        go_wp2_with (go_at_call 43; refine (HC.out _ (below_alloc hB _)).mono ?_; rintro e w2 ⟨rfl, hk2⟩)
        go_roundw
        case rel =>
          refine ⟨i + 1, x, by go_num, by omega, ⟨?_⟩, ⟨fun _ => ⟨?_, ?_⟩⟩, (below_alloc hB _).trans (hk2.mono (below_alloc hB _).size)⟩
          · rw [HE.out, HDR.out]
            simp [blameFrom, hb]
          · rw [show ((i + 1 : Nat) : Int) - 1 = (i : Int) by omega]; exact HX.out
          · unfold badHop at hb
            cases h : inB x.f1 0 ((l0.length : Int) - 1) with
            | true => rfl
            | false => rw [h] at hb; simp at hb
        case measure => simp [intOf]; omega
    · obtain rfl : i = l1.length := by omega
      go_wp2
      go_ret
      refine ⟨?_, hB⟩
      rw [HE.out]
      simp [blameFrom]
set_option maxHeartbeats 8000000 in
theorem route_Blame.calls (A0 : Option Addr) (c0 : Nat) (l0 : List Int) (A1 : Option Addr) (c1 : Nat) (l1 : List (S40)) (r : Int) (w : World) (hr0 : Kd.C (Kd.int .i64) w A0 l0.length l0) (hc0 : l0.length ≤ c0) (hr1 : Kd.C k40 w A1 l1.length l1) (hc1 : l1.length ≤ c1) (h : route_Blame.f l0 l1 = some r) :
    Calls Try.prog 26 #[.slice A0 l0.length c0, .slice A1 l1.length c1] w fun e w' => e = .returned (.int .i64 r) ∧ Below w.heap.size w w' := by
  have hval := Option.some.inj h
  have HV := Aside0.mk hval
  clear h hval
  have hcb1 : ∀ o, ((w.alloc (.cells #[.slice A0 l0.length c0] 22)).alloc o).cell? ⟨w.heap.size, 0, none⟩ = _ := fun o => ((Boxed.new w 22 (.slice A0 l0.length c0)).alloc o).cell
  have hm1 := Kd.C_max hr1
  have HR0 := Aside0.mk hr0
  have HR1 := Aside0.mk hr1
  clear hr0 hr1
  obtain ⟨W, hW⟩ : ∃ W, (w.alloc (.cells #[.slice A0 l0.length c0] 22)).alloc (.cells #[.slice A1 l1.length c1] 23) = W := ⟨_, rfl⟩
  have hbW : Below w.heap.size w W := by rw [← hW]; exact below_alloc (below_alloc (Below.refl _ _) _) _
  have hX0 : Boxed W w.heap.size 22 (.slice A0 l0.length c0) := by rw [← hW]; exact (Boxed.new _ _ _).alloc _
  have hX1 : Boxed W (w.heap.size + 1) 23 (.slice A1 l1.length c1) := by rw [← hW]; exact Boxed.new_at _ _ _ (by simp)
  have HWW := Aside0.mk hW
  clear hW
  cases hb : holdersB l0 with
  | false =>
    go_enter Try.func26, Try.ntmps26
    go_wp2_with fail
    rw [HWW.out]
    refine (route_areHolders.calls A0 c0 l0 false W (Kd.C_below HR0.out hbW) hc0 (by rw [route_areHolders.f, hb])).mono ?_
    rintro e w1 ⟨rfl, hk1⟩
    have hcc1 := Boxed.cell (show Boxed w1 _ _ _ from (hk1.block _ hX1.lt).trans hX1)
    have hbe := hbW.trans (hk1.mono hbW.size)
    go_wp2
    go_ret
    exact ⟨by rw [← HV.out, hb]; simp, hbe⟩
  | true =>
    have hl0 : l0.length ≤ 30 := by simp [holdersB, inB] at hb; omega
    by_cases hn : l1 = []
    · have hn0 : ((l1.length : Int) == 0) = true := by simp [hn]
      have HN := Aside0.mk hn
      clear hn
      go_enter Try.func26, Try.ntmps26
      go_wp2_with fail
      rw [HWW.out]
      refine (route_areHolders.calls A0 c0 l0 true W (Kd.C_below HR0.out hbW) hc0 (by rw [route_areHolders.f, hb])).mono ?_
      rintro e w1 ⟨rfl, hk1⟩
      have hcc1 := Boxed.cell (show Boxed w1 _ _ _ from (hk1.block _ hX1.lt).trans hX1)
      have hbe := hbW.trans (hk1.mono hbW.size)
      go_wp2
      go_ret
      exact ⟨by rw [← HV.out, HN.out]; simp, hbe⟩
    · have hn0 : ((l1.length : Int) == 0) = false := by
        have := List.length_pos_iff.mpr hn
        exact beq_eq_false_iff_ne.mpr (by omega)
      have HN := Aside0.mk hn
      clear hn
      go_enter Try.func26, Try.ntmps26
      go_wp2_with fail
      rw [HWW.out]
      refine (route_areHolders.calls A0 c0 l0 true W (Kd.C_below HR0.out hbW) hc0 (by rw [route_areHolders.f, hb])).mono ?_
      rintro e w1 ⟨rfl, hk1⟩
      have hY0 : Boxed w1 w.heap.size 22 (.slice A0 l0.length c0) := (hk1.block _ hX0.lt).trans hX0
      have hY1 : Boxed w1 (w.heap.size + 1) 23 (.slice A1 l1.length c1) := (hk1.block _ hX1.lt).trans hX1
      have hcc1 := hY1.cell
      have hbe := hbW.trans (hk1.mono hbW.size)
      go_wp2_with (go_at_call 42; refine (route_Blame.c42 w.heap.size (w.heap.size + 1) A0 c0 l0 A1 c1 l1 w1 (Kd.C_below HR0.out hbe) hc0 (Kd.C_below HR1.out hbe) hc1 hY0 hY1 hl0).mono ?_; rintro e w2 ⟨rfl, hk2⟩)
      go_ret
      refine ⟨?_, hbe.trans (hk2.mono hbe.size)⟩
      rw [← HV.out, if_pos ⟨hb, HN.out⟩]
      simp

end Go.Proofs.Ytmiahmpobpokmaa.P
