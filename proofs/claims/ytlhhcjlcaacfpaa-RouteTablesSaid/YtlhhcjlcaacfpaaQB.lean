/- Printed parts of this claim, joined. -/
import Derived.Test.YtlhhcjlcaacfpaaPx0
namespace Go.Proofs.Ytlhhcjlcaacfpaa.P
open Go.RowKit Go.Proofs.YtlhhcjlcaacfpaaW.PrintWords Go.Proofs.YtlhhcjlcaacfpaaW.PrintLast Go.Proofs.YtlhhcjlcaacfpaaW.PrintMore Go.Proofs.YtlhhcjlcaacfpaaH Go.Proofs.YtlhhcjlcaacfpaaR Go.Proofs.YtlhhcjlcaacfpaaM
attribute [local go_sem] max2_int min2_int max_two min_two max_three min_three max_four min_four   -- for this text's walks alone
set_option linter.unusedVariables false
set_option linter.unusedSimpArgs false

theorem eqA39 (d : Nat) (w : World) (x0 y0 : Int) (x1 y1 : Int) :
  (Op.equalIn (d + 2) 39 (.agg #[.int .i64 x0, .int .i64 x1]) (.agg #[.int .i64 y0, .int .i64 y1])).run Try.prog w = .ok (x0 == y0 && (x1 == y1)) w := by
 refine eqA_of Try.underlying39 (by kernel_rfl) ?_
 refine eqf_cons (by rfl) (by go_simp; rfl) (by go_simp; rfl) (by go_simp) ?_
 exact eqf_last (by rfl) (by go_simp; rfl) (by go_simp; rfl) (by go_simp)
end Go.Proofs.Ytlhhcjlcaacfpaa.P
namespace Go.Proofs.Ytlhhcjlcaacfpaa.P
open Go.RowKit Go.Proofs.YtlhhcjlcaacfpaaW.PrintWords Go.Proofs.YtlhhcjlcaacfpaaW.PrintLast Go.Proofs.YtlhhcjlcaacfpaaW.PrintMore Go.Proofs.YtlhhcjlcaacfpaaH Go.Proofs.YtlhhcjlcaacfpaaR Go.Proofs.YtlhhcjlcaacfpaaM
attribute [local go_sem] max2_int min2_int max_two min_two max_three min_three max_four min_four   -- for this text's walks alone
set_option linter.unusedVariables false
set_option linter.unusedSimpArgs false

/-! ### route_isWithin: function 35 -/
def route_isWithin.f (a0 : Int) (a1 : Int) (a2 : Int) : Option (Bool) := if a1 ≤ a0 then (some (decide (a0 ≤ a2))) else (some false)
set_option maxHeartbeats 8000000 in
set_option maxRecDepth 100000 in
theorem route_isWithin.calls (a0 : Int) (a1 : Int) (a2 : Int) (r : Bool) (w : World) (h : route_isWithin.f a0 a1 a2 = some r) :
  Calls Try.prog 35 #[.int .i64 a0, .int .i64 a1, .int .i64 a2] w fun e w' => e = .returned (.bool r) ∧ Drawn0 w w' := by
 have H : (if a1 ≤ a0 then (some (decide (a0 ≤ a2))) else (some false)) = some r := h
 clear h
 by_cases c4 : a1 ≤ a0
 ·rw [if_pos c4] at H
  have c4b0 : decide (a1 ≤ a0) = true := decide_eq_true c4
  clear c4
  obtain rfl := Option.some.inj H
  go_enter Try.func35, Try.ntmps35
  go_wp2
  go_ret
  exact ⟨by first | rfl | (simp; done) | (simp [*]; done), by repeat (first | exact Drawn0.refl _ | apply Drawn0.step)⟩
 ·rw [if_neg c4] at H
  have c4b0 : decide (a1 ≤ a0) = false := decide_eq_false c4
  clear c4
  obtain rfl := Option.some.inj H
  go_enter Try.func35, Try.ntmps35
  go_wp2
  go_ret
  exact ⟨by first | rfl | (simp; done) | (simp [*]; done), by repeat (first | exact Drawn0.refl _ | apply Drawn0.step)⟩

-- NOT PRINTED: function 73 (slices_IndexFunc_int_int)

-- NOT PRINTED: function 52 (slices_ContainsFunc_int_int)

end Go.Proofs.Ytlhhcjlcaacfpaa.P
namespace Go.Proofs.Ytlhhcjlcaacfpaa.P
open Go.RowKit Go.Proofs.YtlhhcjlcaacfpaaW.PrintWords Go.Proofs.YtlhhcjlcaacfpaaW.PrintLast Go.Proofs.YtlhhcjlcaacfpaaW.PrintMore Go.Proofs.YtlhhcjlcaacfpaaH Go.Proofs.YtlhhcjlcaacfpaaR Go.Proofs.YtlhhcjlcaacfpaaM
attribute [local go_sem] max2_int min2_int max_two min_two max_three min_three max_four min_four   -- for this text's walks alone
set_option linter.unusedVariables false
set_option linter.unusedSimpArgs false

/-! ### route_areHolders: function 38 -/
def inB (n lo hi : Int) : Bool := decide (lo ≤ n) && decide (n ≤ hi)
def holdersB (l : List Int) : Bool := inB l.length 1 30 && l.all (fun c => inB c (-1) 7)
def route_areHolders.f (l0 : List Int) : Option Bool := some (holdersB l0)
theorem route_isWithin.tells (n lo hi : Int) : route_isWithin.f n lo hi = some (inB n lo hi) := by
 unfold route_isWithin.f inB
 by_cases h : lo ≤ n <;> simp [h]

theorem route_areHolders.c45 (x : Int) (w : World) : Calls Try.prog 51 #[.int .i64 x] w fun e w' => e = .returned (.bool (!inB x (-1) 7)) ∧ Drawn0 w w' := by
 go_enter Try.func51, Try.ntmps51
 go_wp2_with (go_at_call 35; refine (route_isWithin.calls _ _ _ _ _ (route_isWithin.tells _ _ _)).mono ?_; rintro e w' ⟨rfl, m, rfl⟩)
 go_ret
 exact ⟨rfl, by repeat (first | exact Drawn0.refl _ | apply Drawn0.step)⟩

theorem route_areHolders.c48 (A0 : Option Addr) (c0 : Nat) (l0 : List Int) (w : World) (hr0 : Kd.C (Kd.int .i64) w A0 l0.length l0) (hc0 : l0.length ≤ c0) (hm : l0.length ≤ 9223372036854775807) :
 Calls Try.prog 73 #[.slice A0 l0.length c0, .func (.func 51) #[] #[]] w fun e w' => ∃ n : Int, e = .returned (.int .i64 n) ∧ decide (0 ≤ n) = l0.any (fun c => !inB c (-1) 7) ∧ Drawn0 w w' := by
 have HR0 := Aside0.mk hr0
 clear hr0
 go_enter Try.func73, Try.ntmps73
 go_wp2
 go_loopw [8] (fun v w' => ∃ i : Nat, v = .int .i64 (i : Int) ∧ i ≤ l0.length ∧ Aside0 (∀ j, j < i → inB (rd l0 (j : Int)) (-1) 7 = true) ∧ Drawn0 w w') (fun v _ => (l0.length - intOf v).toNat)
 case atStart => exact ⟨0, rfl, by omega, ⟨by intro j hj; omega⟩, Drawn0.refl _⟩
 case round =>
  obtain ⟨i, rfl, hi, HA, ⟨m, rfl⟩⟩ := hrel
  by_cases hlt : i < l0.length
  ·obtain ⟨ad, e, hx⟩ := Kd.at_int HR0.out (i : Int) (by omega) (by omega)
   cases e; rw [Int.toNat_natCast] at hx
   cases hb : inB (rd l0 (i : Int)) (-1) 7 with
   | true =>
    have HB := Aside0.mk hb
    have hb' : (!inB (rd l0 (i : Int)) (-1) 7) = false := by rw [hb]; rfl
    clear hb
    go_wp2_with (go_at_call 51; refine (route_areHolders.c45 _ _).mono ?_; rintro e w' ⟨rfl, m2, rfl⟩)
    go_roundw
    case rel => exact ⟨i + 1, by go_num, by omega, ⟨fun j hj => by rcases Nat.lt_succ_iff_lt_or_eq.mp hj with h | rfl; exact HA.out j h; exact HB.out⟩, by repeat (first | exact Drawn0.refl _ | apply Drawn0.step)⟩
    case measure => simp [intOf]; omega
   | false =>
    have HB := Aside0.mk hb
    have hb' : (!inB (rd l0 (i : Int)) (-1) 7) = true := by rw [hb]; rfl
    clear hb
    go_wp2_with (go_at_call 51; refine (route_areHolders.c45 _ _).mono ?_; rintro e w' ⟨rfl, m2, rfl⟩)
    go_ret
    refine ⟨i, rfl, ?_, by repeat (first | exact Drawn0.refl _ | apply Drawn0.step)⟩
    have : l0.any (fun c => !inB c (-1) 7) = true := by
     rw [List.any_eq_true]
     refine ⟨l0[i], List.getElem_mem _, ?_⟩
     have := HB.out
     simp [rd, hlt] at this
     simp [this]
    rw [this]; simp
  ·have hx : i = l0.length := by omega
   go_wp2
   go_ret
   refine ⟨-1, rfl, ?_, by repeat (first | exact Drawn0.refl _ | apply Drawn0.step)⟩
   have : l0.any (fun c => !inB c (-1) 7) = false := by
    rw [List.any_eq_false]
    intro x hxm
    obtain ⟨j, hj, rfl⟩ := List.getElem_of_mem hxm
    have := HA.out j (by omega)
    simp [rd, hj] at this
    simp [this]
   rw [this]; simp
theorem route_areHolders.c46 (A0 : Option Addr) (c0 : Nat) (l0 : List Int) (w : World) (hr0 : Kd.C (Kd.int .i64) w A0 l0.length l0) (hc0 : l0.length ≤ c0) (hm : l0.length ≤ 9223372036854775807) :
 Calls Try.prog 52 #[.slice A0 l0.length c0, .func (.func 51) #[] #[]] w fun e w' => e = .returned (.bool (l0.any (fun c => !inB c (-1) 7))) ∧ Drawn0 w w' := by
 go_enter Try.func52, Try.ntmps52
 go_wp2_with (go_at_call 73; refine (route_areHolders.c48 _ _ _ _ hr0 hc0 hm).mono ?_; rintro e w' ⟨n, rfl, hn, m, rfl⟩)
 go_ret
 exact ⟨by rw [← hn]; simp, by repeat (first | exact Drawn0.refl _ | apply Drawn0.step)⟩

theorem route_areHolders.calls (A0 : Option Addr) (c0 : Nat) (l0 : List Int) (r : Bool) (w : World) (hr0 : Kd.C (Kd.int .i64) w A0 l0.length l0) (hc0 : l0.length ≤ c0) (h : route_areHolders.f l0 = some r) :
  Calls Try.prog 38 #[.slice A0 l0.length c0] w fun e w' => e = .returned (.bool r) ∧ Below w.heap.size w w' := by
 have hx := hr0
 have HR0 := Aside0.mk hr0
 obtain rfl := Option.some.inj h
 have HF := Aside0.mk (show holdersB l0 = (inB (l0.length : Int) 1 30 && !(l0.any (fun c => !inB c (-1) 7))) by simp [holdersB, List.all_eq_not_any_not])
 clear h hr0 hx
 cases hb : inB (l0.length : Int) 1 30 with
 | true =>
  have hm : l0.length ≤ 30 := by simp [inB] at hb; omega
  go_enter Try.func38, Try.ntmps38
  go_wp2_with (first | (go_at_call 35; refine (route_isWithin.calls _ _ _ _ _ (route_isWithin.tells _ _ _)).mono ?_; rintro e w' ⟨rfl, m, rfl⟩) | (go_at_call 52; refine (route_areHolders.c46 _ _ _ _ (Kd.C_drewN HR0.out _) hc0 (by omega)).mono ?_; rintro e w' ⟨rfl, m2, rfl⟩))
  go_ret
  exact ⟨by rw [HF.out, hb]; rfl, by repeat (first | exact (Drawn0.refl _).below | apply pw_below_drewN)⟩
 | false =>
  go_enter Try.func38, Try.ntmps38
  go_wp2_with (first | (go_at_call 35; refine (route_isWithin.calls _ _ _ _ _ (route_isWithin.tells _ _ _)).mono ?_; rintro e w' ⟨rfl, m, rfl⟩) | (go_at_call 52; refine (route_areHolders.c46 _ _ _ _ (Kd.C_drewN HR0.out _) hc0 (by omega)).mono ?_; rintro e w' ⟨rfl, m2, rfl⟩))
  go_ret
  exact ⟨by rw [HF.out, hb]; rfl, by repeat (first | exact (Drawn0.refl _).below | apply pw_below_drewN)⟩
end Go.Proofs.Ytlhhcjlcaacfpaa.P
