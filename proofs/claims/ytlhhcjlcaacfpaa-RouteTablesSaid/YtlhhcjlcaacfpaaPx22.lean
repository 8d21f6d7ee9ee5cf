-- PRINTED by print.py (a twelfth state) out of the translation. Not trusted: Lean checks it.
import Derived.Test.YtlhhcjlcaacfpaaPx0
import Derived.Test.YtlhhcjlcaacfpaaPx19
import Derived.Test.YtlhhcjlcaacfpaaPx21
namespace Go.Proofs.Ytlhhcjlcaacfpaa.P
open Go.RowKit Go.Proofs.YtlhhcjlcaacfpaaW.PrintWords Go.Proofs.YtlhhcjlcaacfpaaW.PrintLast Go.Proofs.YtlhhcjlcaacfpaaW.PrintMore Go.Proofs.YtlhhcjlcaacfpaaH Go.Proofs.YtlhhcjlcaacfpaaR Go.Proofs.YtlhhcjlcaacfpaaM
attribute [local go_sem] max2_int min2_int max_two min_two max_three min_three max_four min_four   -- for this text's walks alone
set_option linter.unusedVariables false
set_option linter.unusedSimpArgs false

/-! ### give: function 32 -/
def overF (x y : Int) : Int := if y = -1 then x else y
def takeF (x y : Int) : Int := if y = -1 then x else -1
theorem block_over.calls (x y : Int) (w : World) : Calls Try.prog 61 #[.int .i64 x, .int .i64 y] w fun e w' => e = .returned (.int .i64 (overF x y)) ∧ Drawn0 w w' := by
 by_cases h : y = -1
 ·have hb : (y == -1) = true := beq_iff_eq.mpr h
  have hb2 : (y != -1) = false := by simp [hb, bne]
  have H := Aside0.mk h
  clear h
  go_enter Try.func61, Try.ntmps61
  go_wp2
  go_ret
  exact ⟨by simp [overF, H.out], by repeat (first | exact Drawn0.refl _ | apply Drawn0.step)⟩
 ·have hb : (y == -1) = false := beq_eq_false_iff_ne.mpr h
  have hb2 : (y != -1) = true := by simp [hb, bne]
  have H := Aside0.mk h
  clear h
  go_enter Try.func61, Try.ntmps61
  go_wp2
  go_ret
  exact ⟨by simp [overF, H.out], by repeat (first | exact Drawn0.refl _ | apply Drawn0.step)⟩
theorem block_Take.c1 (x y : Int) (w : World) : Calls Try.prog 59 #[.int .i64 x, .int .i64 y] w fun e w' => e = .returned (.int .i64 (takeF x y)) ∧ Drawn0 w w' := by
 by_cases h : y = -1
 ·have hb : (y == -1) = true := beq_iff_eq.mpr h
  have H := Aside0.mk h
  clear h
  go_enter Try.func59, Try.ntmps59
  go_wp2
  go_ret
  exact ⟨by simp [takeF, H.out], by repeat (first | exact Drawn0.refl _ | apply Drawn0.step)⟩
 ·have hb : (y == -1) = false := beq_eq_false_iff_ne.mpr h
  have H := Aside0.mk h
  clear h
  go_enter Try.func59, Try.ntmps59
  go_wp2
  go_ret
  exact ⟨by simp [takeF, H.out], by repeat (first | exact Drawn0.refl _ | apply Drawn0.step)⟩
theorem block_on.calls (x y c : Int) (w : World) : Calls Try.prog 58 #[.agg #[.int .i64 x, .int .i64 y], .int .i64 c] w fun e w' => ∃ g, e = .returned (.slice (some ⟨g, 0, none⟩) 1 1) ∧ Kd.C k99 w' (some ⟨g, 0, none⟩) 1 [⟨⟨x, y⟩, c⟩] ∧ Below w.heap.size w w' := by
 go_enter Try.func58, Try.ntmps58
 go_wp2
 go_ret
 refine ⟨_, rfl, ?_, by repeat (first | exact Below.refl _ _ | apply below_alloc | apply pw_below_drewN | apply below_drew1)⟩
 have hb := blk_new (w.alloc (Obj.cells #[Value.int IntKind.i64 x, Value.int IntKind.i64 y] 55)) (Obj.cells #[Value.int IntKind.i64 x, Value.int IntKind.i64 y, Value.int IntKind.i64 c] 99 (0, 0))
 rw [World.size_alloc] at hb
 exact C_one (cs := [.int .i64 x, .int .i64 y, .int .i64 c]) hb (k99_mk _ ⟨⟨x, y⟩, c⟩)
def block_Give.f (l0 : List S99) (a1 : S55) (a2 : Int) : Option (List S99 × Int) :=
 if mapB l0 then if rangeB a1 then if carrierB a2 then combF overF l0 [⟨a1, a2⟩] else some ([], 130) else some ([], 130) else some ([], 130)
def block_Take.f (l0 : List S99) (a1 : S55) : Option (List S99 × Int) :=
 if mapB l0 then if rangeB a1 then combF takeF l0 [⟨a1, 0⟩] else some ([], 130) else some ([], 130)
set_option maxHeartbeats 1000000 in
theorem block_Give.calls (A0 : Option Addr) (c0 : Nat) (l0 : List S99) (a1 : S55) (a2 : Int) (r1 : List S99) (r2 : Int) (w : World) (hr0 : Kd.C k99 w A0 l0.length l0) (hc0 : l0.length ≤ c0) (h : block_Give.f l0 a1 a2 = some (r1, r2)) :
  Calls Try.prog 48 #[.slice A0 l0.length c0, .agg #[.int .i64 a1.f0, .int .i64 a1.f1], .int .i64 a2] w fun e w' => ∃ v0_ : Value, e = .returned (.tuple #[v0_, .int .i64 r2]) ∧ Kd.R k99 99 w' w.heap.size (fun _ => True) v0_ r1 ∧ Below w.heap.size w w' := by
 obtain ⟨x, y⟩ := a1
 unfold block_Give.f at h
 have HR0 := Aside0.mk hr0
 clear hr0
 cases hm : mapB l0 with
 | false =>
  rw [if_neg (by rw [hm]; decide)] at h
  simp only [Option.some.injEq, Prod.mk.injEq] at h
  obtain ⟨rfl, rfl⟩ := h
  go_enter Try.func48, Try.ntmps48
  go_wp2_with (first | (go_at_call 55; (with_reducible refine (block_Valid.calls _ _ _ (mapB l0) _ (Kd.C_below HR0.out (below_alloc (Below.refl _ _) _)) hc0 rfl).mono ?_); rw [hm]; rintro e w2 ⟨rfl, hk2⟩; have HK2 := Aside0.mk ((below_alloc (Below.refl w.heap.size w) _).trans (hk2.mono (below_alloc (Below.refl w.heap.size w) _).size)); have hb2 : w2.heap[w.heap.size]? = some (.cells #[.int .i64 x, .int .i64 y] 55 (0, 0)) := (hk2.block _ (by simp)).trans (blk_new _ _); have hx2 := blk_cell hb2 0; have hy2 := blk_cell hb2 1; simp only [List.getElem?_toArray, List.getElem?_cons_zero, List.getElem?_cons_succ] at hx2 hy2; have HB2 := Aside0.mk hb2; clear hk2 hb2))
  go_ret2
  exact ⟨_, rfl, Kd.R_nil _ _ _ _ _, by repeat (first | exact HK2.out | apply below_alloc | apply pw_below_drewN | apply below_drew1)⟩
 | true =>
  rw [if_pos hm] at h
  cases hrg : rangeB ⟨x, y⟩ with
  | false =>
   rw [if_neg (by rw [hrg]; decide)] at h
   simp only [Option.some.injEq, Prod.mk.injEq] at h
   obtain ⟨rfl, rfl⟩ := h
   go_enter Try.func48, Try.ntmps48
   go_wp2_with (first | (go_at_call 55; (with_reducible refine (block_Valid.calls _ _ _ (mapB l0) _ (Kd.C_below HR0.out (below_alloc (Below.refl _ _) _)) hc0 rfl).mono ?_); rw [hm]; rintro e w2 ⟨rfl, hk2⟩; have HK2 := Aside0.mk ((below_alloc (Below.refl w.heap.size w) _).trans (hk2.mono (below_alloc (Below.refl w.heap.size w) _).size)); have hb2 : w2.heap[w.heap.size]? = some (.cells #[.int .i64 x, .int .i64 y] 55 (0, 0)) := (hk2.block _ (by simp)).trans (blk_new _ _); have hx2 := blk_cell hb2 0; have hy2 := blk_cell hb2 1; simp only [List.getElem?_toArray, List.getElem?_cons_zero, List.getElem?_cons_succ] at hx2 hy2; have HB2 := Aside0.mk hb2; clear hk2 hb2) | (go_at_call 56; (with_reducible refine (block_isRange.calls _ _ _).mono ?_); rw [hrg]; rintro e w3 ⟨rfl, hk3⟩; have HK3 := Aside0.mk (below_step HK2.out hk3); have hb3 : w3.heap[w.heap.size]? = some (.cells #[.int .i64 x, .int .i64 y] 55 (0, 0)) := (hk3.block _ (blk_lt HB2.out)).trans HB2.out; have hx3 := blk_cell hb3 0; have hy3 := blk_cell hb3 1; simp only [List.getElem?_toArray, List.getElem?_cons_zero, List.getElem?_cons_succ] at hx3 hy3; have HB3 := Aside0.mk hb3; clear hk3 hb3))
   go_ret2
   exact ⟨_, rfl, Kd.R_nil _ _ _ _ _, by repeat (first | exact HK3.out | exact HK2.out | apply below_alloc | apply pw_below_drewN | apply below_drew1)⟩
  | true =>
   rw [if_pos hrg] at h
   cases hca : carrierB a2 with
   | false =>
    rw [if_neg (by rw [hca]; decide)] at h
    simp only [Option.some.injEq, Prod.mk.injEq] at h
    obtain ⟨rfl, rfl⟩ := h
    go_enter Try.func48, Try.ntmps48
    go_wp2_with (first | (go_at_call 55; (with_reducible refine (block_Valid.calls _ _ _ (mapB l0) _ (Kd.C_below HR0.out (below_alloc (Below.refl _ _) _)) hc0 rfl).mono ?_); rw [hm]; rintro e w2 ⟨rfl, hk2⟩; have HK2 := Aside0.mk ((below_alloc (Below.refl w.heap.size w) _).trans (hk2.mono (below_alloc (Below.refl w.heap.size w) _).size)); have hb2 : w2.heap[w.heap.size]? = some (.cells #[.int .i64 x, .int .i64 y] 55 (0, 0)) := (hk2.block _ (by simp)).trans (blk_new _ _); have hx2 := blk_cell hb2 0; have hy2 := blk_cell hb2 1; simp only [List.getElem?_toArray, List.getElem?_cons_zero, List.getElem?_cons_succ] at hx2 hy2; have HB2 := Aside0.mk hb2; clear hk2 hb2) | (go_at_call 56; (with_reducible refine (block_isRange.calls _ _ _).mono ?_); rw [hrg]; rintro e w3 ⟨rfl, hk3⟩; have HK3 := Aside0.mk (below_step HK2.out hk3); have hb3 : w3.heap[w.heap.size]? = some (.cells #[.int .i64 x, .int .i64 y] 55 (0, 0)) := (hk3.block _ (blk_lt HB2.out)).trans HB2.out; have hx3 := blk_cell hb3 0; have hy3 := blk_cell hb3 1; simp only [List.getElem?_toArray, List.getElem?_cons_zero, List.getElem?_cons_succ] at hx3 hy3; have HB3 := Aside0.mk hb3; clear hk3 hb3) | (go_at_call 60; (with_reducible refine (block_isCarrier.calls _ _).mono ?_); rw [hca]; rintro e w4 ⟨rfl, m4, rfl⟩))
    go_ret2
    exact ⟨_, rfl, Kd.R_nil _ _ _ _ _, by repeat (first | exact HK3.out | exact HK2.out | apply below_alloc | apply pw_below_drewN | apply below_drew1)⟩
   | true =>
    rw [if_pos hca] at h
    have HF := Aside0.mk h
    clear h
    go_enter Try.func48, Try.ntmps48
    go_wp2_with (first | (go_at_call 55; (with_reducible refine (block_Valid.calls _ _ _ (mapB l0) _ (Kd.C_below HR0.out (below_alloc (Below.refl _ _) _)) hc0 rfl).mono ?_); rw [hm]; rintro e w2 ⟨rfl, hk2⟩; have HK2 := Aside0.mk ((below_alloc (Below.refl w.heap.size w) _).trans (hk2.mono (below_alloc (Below.refl w.heap.size w) _).size)); have hb2 : w2.heap[w.heap.size]? = some (.cells #[.int .i64 x, .int .i64 y] 55 (0, 0)) := (hk2.block _ (by simp)).trans (blk_new _ _); have hx2 := blk_cell hb2 0; have hy2 := blk_cell hb2 1; simp only [List.getElem?_toArray, List.getElem?_cons_zero, List.getElem?_cons_succ] at hx2 hy2; have HB2 := Aside0.mk hb2; clear hk2 hb2) | (go_at_call 56; (with_reducible refine (block_isRange.calls _ _ _).mono ?_); rw [hrg]; rintro e w3 ⟨rfl, hk3⟩; have HK3 := Aside0.mk (below_step HK2.out hk3); have hb3 : w3.heap[w.heap.size]? = some (.cells #[.int .i64 x, .int .i64 y] 55 (0, 0)) := (hk3.block _ (blk_lt HB2.out)).trans HB2.out; have hx3 := blk_cell hb3 0; have hy3 := blk_cell hb3 1; simp only [List.getElem?_toArray, List.getElem?_cons_zero, List.getElem?_cons_succ] at hx3 hy3; have HB3 := Aside0.mk hb3; clear hk3 hb3) | (go_at_call 60; (with_reducible refine (block_isCarrier.calls _ _).mono ?_); rw [hca]; rintro e w4 ⟨rfl, m4, rfl⟩) | (go_at_call 58; (with_reducible refine (block_on.calls _ _ _ _).mono ?_); rintro e w5 ⟨g5, rfl, hC5, hk5⟩; have HC5 := Aside0.mk hC5; have HK5 := Aside0.mk (below_step (pw_below_drewN HK3.out _) hk5); clear hC5 hk5) | (go_at_call 57; refine (block_combine.calls 61 overF (goes_in Try.func61 (by kernel_rfl) rfl) (fun x y W => block_over.calls x y W) _ _ _ _ _ _ _ _ w _ HK5.out (Kd.C_below HR0.out HK5.out) hc0 HC5.out (Nat.le_refl _) HF.out).mono ?_; rintro e w6 ⟨v6, rfl, hR6, hk6⟩; have HK6 := Aside0.mk hk6; have HR6 := Aside0.mk hR6; clear hR6 hk6))
    go_ret2
    exact ⟨_, rfl, HR6.out, HK6.out⟩
set_option maxHeartbeats 1000000 in
theorem block_Take.calls (A0 : Option Addr) (c0 : Nat) (l0 : List S99) (a1 : S55) (r1 : List S99) (r2 : Int) (w : World) (hr0 : Kd.C k99 w A0 l0.length l0) (hc0 : l0.length ≤ c0) (h : block_Take.f l0 a1 = some (r1, r2)) :
  Calls Try.prog 47 #[.slice A0 l0.length c0, .agg #[.int .i64 a1.f0, .int .i64 a1.f1]] w fun e w' => ∃ v0_ : Value, e = .returned (.tuple #[v0_, .int .i64 r2]) ∧ Kd.R k99 99 w' w.heap.size (fun _ => True) v0_ r1 ∧ Below w.heap.size w w' := by
 obtain ⟨x, y⟩ := a1
 unfold block_Take.f at h
 have HR0 := Aside0.mk hr0
 clear hr0
 cases hm : mapB l0 with
 | false =>
  rw [if_neg (by rw [hm]; decide)] at h
  simp only [Option.some.injEq, Prod.mk.injEq] at h
  obtain ⟨rfl, rfl⟩ := h
  go_enter Try.func47, Try.ntmps47
  go_wp2_with (first | (go_at_call 55; (with_reducible refine (block_Valid.calls _ _ _ (mapB l0) _ (Kd.C_below HR0.out (below_alloc (Below.refl _ _) _)) hc0 rfl).mono ?_); rw [hm]; rintro e w2 ⟨rfl, hk2⟩; have HK2 := Aside0.mk ((below_alloc (Below.refl w.heap.size w) _).trans (hk2.mono (below_alloc (Below.refl w.heap.size w) _).size)); have hb2 : w2.heap[w.heap.size]? = some (.cells #[.int .i64 x, .int .i64 y] 55 (0, 0)) := (hk2.block _ (by simp)).trans (blk_new _ _); have hx2 := blk_cell hb2 0; have hy2 := blk_cell hb2 1; simp only [List.getElem?_toArray, List.getElem?_cons_zero, List.getElem?_cons_succ] at hx2 hy2; have HB2 := Aside0.mk hb2; clear hk2 hb2))
  go_ret2
  exact ⟨_, rfl, Kd.R_nil _ _ _ _ _, by repeat (first | exact HK2.out | apply below_alloc | apply pw_below_drewN | apply below_drew1)⟩
 | true =>
  rw [if_pos hm] at h
  cases hrg : rangeB ⟨x, y⟩ with
  | false =>
   rw [if_neg (by rw [hrg]; decide)] at h
   simp only [Option.some.injEq, Prod.mk.injEq] at h
   obtain ⟨rfl, rfl⟩ := h
   go_enter Try.func47, Try.ntmps47
   go_wp2_with (first | (go_at_call 55; (with_reducible refine (block_Valid.calls _ _ _ (mapB l0) _ (Kd.C_below HR0.out (below_alloc (Below.refl _ _) _)) hc0 rfl).mono ?_); rw [hm]; rintro e w2 ⟨rfl, hk2⟩; have HK2 := Aside0.mk ((below_alloc (Below.refl w.heap.size w) _).trans (hk2.mono (below_alloc (Below.refl w.heap.size w) _).size)); have hb2 : w2.heap[w.heap.size]? = some (.cells #[.int .i64 x, .int .i64 y] 55 (0, 0)) := (hk2.block _ (by simp)).trans (blk_new _ _); have hx2 := blk_cell hb2 0; have hy2 := blk_cell hb2 1; simp only [List.getElem?_toArray, List.getElem?_cons_zero, List.getElem?_cons_succ] at hx2 hy2; have HB2 := Aside0.mk hb2; clear hk2 hb2) | (go_at_call 56; (with_reducible refine (block_isRange.calls _ _ _).mono ?_); rw [hrg]; rintro e w3 ⟨rfl, hk3⟩; have HK3 := Aside0.mk (below_step HK2.out hk3); have hb3 : w3.heap[w.heap.size]? = some (.cells #[.int .i64 x, .int .i64 y] 55 (0, 0)) := (hk3.block _ (blk_lt HB2.out)).trans HB2.out; have hx3 := blk_cell hb3 0; have hy3 := blk_cell hb3 1; simp only [List.getElem?_toArray, List.getElem?_cons_zero, List.getElem?_cons_succ] at hx3 hy3; have HB3 := Aside0.mk hb3; clear hk3 hb3))
   go_ret2
   exact ⟨_, rfl, Kd.R_nil _ _ _ _ _, by repeat (first | exact HK3.out | exact HK2.out | apply below_alloc | apply pw_below_drewN | apply below_drew1)⟩
  | true =>
   rw [if_pos hrg] at h
   have HF := Aside0.mk h
   clear h
   go_enter Try.func47, Try.ntmps47
   go_wp2_with (first | (go_at_call 55; (with_reducible refine (block_Valid.calls _ _ _ (mapB l0) _ (Kd.C_below HR0.out (below_alloc (Below.refl _ _) _)) hc0 rfl).mono ?_); rw [hm]; rintro e w2 ⟨rfl, hk2⟩; have HK2 := Aside0.mk ((below_alloc (Below.refl w.heap.size w) _).trans (hk2.mono (below_alloc (Below.refl w.heap.size w) _).size)); have hb2 : w2.heap[w.heap.size]? = some (.cells #[.int .i64 x, .int .i64 y] 55 (0, 0)) := (hk2.block _ (by simp)).trans (blk_new _ _); have hx2 := blk_cell hb2 0; have hy2 := blk_cell hb2 1; simp only [List.getElem?_toArray, List.getElem?_cons_zero, List.getElem?_cons_succ] at hx2 hy2; have HB2 := Aside0.mk hb2; clear hk2 hb2) | (go_at_call 56; (with_reducible refine (block_isRange.calls _ _ _).mono ?_); rw [hrg]; rintro e w3 ⟨rfl, hk3⟩; have HK3 := Aside0.mk (below_step HK2.out hk3); have hb3 : w3.heap[w.heap.size]? = some (.cells #[.int .i64 x, .int .i64 y] 55 (0, 0)) := (hk3.block _ (blk_lt HB2.out)).trans HB2.out; have hx3 := blk_cell hb3 0; have hy3 := blk_cell hb3 1; simp only [List.getElem?_toArray, List.getElem?_cons_zero, List.getElem?_cons_succ] at hx3 hy3; have HB3 := Aside0.mk hb3; clear hk3 hb3) | (go_at_call 58; (with_reducible refine (block_on.calls _ _ _ _).mono ?_); rintro e w5 ⟨g5, rfl, hC5, hk5⟩; have HC5 := Aside0.mk hC5; have HK5 := Aside0.mk (below_step HK3.out hk5); clear hC5 hk5) | (go_at_call 57; refine (block_combine.calls 59 takeF (goes_in Try.func59 (by kernel_rfl) rfl) (fun x y W => block_Take.c1 x y W) _ _ _ _ _ _ _ _ w _ HK5.out (Kd.C_below HR0.out HK5.out) hc0 HC5.out (Nat.le_refl _) HF.out).mono ?_; rintro e w6 ⟨v6, rfl, hR6, hk6⟩; have HK6 := Aside0.mk hk6; have HR6 := Aside0.mk hR6; clear hR6 hk6))
   go_ret2
   exact ⟨_, rfl, HR6.out, HK6.out⟩
end Go.Proofs.Ytlhhcjlcaacfpaa.P
