-- PRINTED by print.py (a twelfth state) out of the translation. Not trusted: Lean checks it.
import Derived.Test.YtlhhcjlcaacfpaaPx0
import Derived.Test.YtlhhcjlcaacfpaaPx5
import Derived.Test.YtlhhcjlcaacfpaaPx10
namespace Go.Proofs.Ytlhhcjlcaacfpaa.P
open Go.RowKit Go.Proofs.YtlhhcjlcaacfpaaW.PrintWords Go.Proofs.YtlhhcjlcaacfpaaW.PrintLast Go.Proofs.YtlhhcjlcaacfpaaW.PrintMore Go.Proofs.YtlhhcjlcaacfpaaH Go.Proofs.YtlhhcjlcaacfpaaR Go.Proofs.YtlhhcjlcaacfpaaM
attribute [local go_sem] max2_int min2_int max_two min_two max_three min_three max_four min_four   -- for this text's walks alone
set_option linter.unusedVariables false
set_option linter.unusedSimpArgs false

/-! ### route_Path: function 11 -/
attribute [local go_sem] Oper.semAt_some
def hopsE : Nat → List Int → List Int → Int → Int → Option (List (S39 × Int))
 | 0, _, _, _, _ => none
 | n + 1, h, k, c, u => (route_decide.f h k c u).bind fun t => if t.2.2 = 0 then (hopsE n h k t.2.1 t.1).bind fun z => some ((⟨c, t.1⟩, t.2.2) :: z) else some [(⟨c, t.1⟩, t.2.2)]
def lastEnd (z : List (S39 × Int)) : Int := match z.getLast? with | some x => x.2 | none => 0
theorem lastEnd_snoc (z : List (S39 × Int)) (x : S39 × Int) : lastEnd (z ++ [x]) = x.2 := by simp [lastEnd]
theorem hopsE.length : ∀ k h l c u z, hopsE k h l c u = some z → hopsE z.length h l c u = some z
 | 0, _, _, _, _, _, h => by cases h
 | k + 1, h, l, c, u, z, hz => by
  unfold hopsE at hz
  cases hd : route_decide.f h l c u with
  | none => rw [hd] at hz; cases hz
  | some t =>
   rw [hd] at hz
   simp only [Option.bind_some] at hz
   by_cases ht : t.2.2 = 0
   ·rw [if_pos ht] at hz
    cases hr : hopsE k h l t.2.1 t.1 with
    | none => rw [hr] at hz; cases hz
    | some y =>
     rw [hr] at hz
     simp only [Option.bind_some, Option.some.injEq] at hz
     subst hz
     simp only [List.length_cons]
     unfold hopsE
     rw [hd]
     simp only [Option.bind_some]
     rw [if_pos ht, hopsE.length k h l _ _ y hr]
     rfl
   ·rw [if_neg ht] at hz
    simp only [Option.some.injEq] at hz
    subst hz
    simp only [List.length_cons, List.length_nil]
    unfold hopsE
    rw [hd]
    simp only [Option.bind_some]
    rw [if_neg ht]
def route_Path.f (n : Nat) (l0 l1 : List Int) (a2 a3 : Int) : Option (List (S39) × Int × Int) :=
 (route_canCall.f l0 l1 a2 a3).bind fun b => if b = true then (hopsE n l0 l1 a3 (-1)).bind fun z => if z.length ≤ 1000 then some (z.map Prod.fst, lastEnd z, 0) else none else some ([], 0, 240)
theorem hopsE.mono : ∀ k h l c u, LeO (hopsE k h l c u) (hopsE (k + 1) h l c u)
 | 0, _, _, _, _ => LeO.none _
 | k + 1, h, l, c, u => by
  unfold hopsE
  exact LeO.bind (LeO.refl _) fun t => LeO.ite (LeO.bind (hopsE.mono k _ _ _ _) fun _ => LeO.refl _) (LeO.refl _)
theorem route_Path.mono : ∀ a0 a1 a2 a3 k, LeO (route_Path.f k a0 a1 a2 a3) (route_Path.f (k + 1) a0 a1 a2 a3) := by
 intro a0 a1 a2 a3 k
 unfold route_Path.f
 exact LeO.bind (LeO.refl _) fun t => LeO.ite (LeO.bind (hopsE.mono k _ _ _ _) fun _ => LeO.refl _) (LeO.refl _)
def route_Path.encs (x : S39 × Int) : Array Value := #[.agg #[.int .i64 x.1.f0, .int .i64 x.1.f1], .int .i64 x.2]
def route_Path.Rel (wb : World) (B1 B2 B3 : Nat) (A0 : Option Addr) (c0 : Nat) (l0 : List Int) (A1 : Option Addr) (c1 : Nat) (l1 : List Int) (xs : List (S39 × Int)) (J : Nat → World → Prop) (d : Nat) (v : Value) (wr : World) : Prop :=
 ∃ (i : Nat) (c u : Int), v = .int .i64 u ∧ Boxed wr B1 23 (.slice A0 l0.length c0) ∧ Boxed wr B2 23 (.slice A1 l1.length c1) ∧ Boxed wr B3 3 (.int .i64 c) ∧ Below wb.heap.size wb wr ∧ J i wr ∧ i + d = xs.length ∧ hopsE d l0 l1 c u = some (xs.drop i)
theorem route_Path.iter (wb : World) (B1 B2 B3 : Nat) (A0 : Option Addr) (c0 : Nat) (l0 : List Int) (A1 : Option Addr) (c1 : Nat) (l1 : List Int) (c : Int) (xs : List (S39 × Int)) (hxs : hopsE xs.length l0 l1 c (-1) = some xs) (w0 : World)
  (hn : wb.heap.size ≤ B1 ∧ B1 ≠ B3 ∧ B2 ≠ B3 ∧ wb.heap.size ≤ B3)
  (hr0 : Kd.C (Kd.int .i64) wb A0 l0.length l0) (hc0 : l0.length ≤ c0) (hr1 : Kd.C (Kd.int .i64) wb A1 l1.length l1) (hc1 : l1.length ≤ c1) (hwb : Below wb.heap.size wb w0)
  (hb1 : Boxed w0 B1 23 (.slice A0 l0.length c0)) (hb2 : Boxed w0 B2 23 (.slice A1 l1.length c1)) (hb3 : Boxed w0 B3 3 (.int .i64 c)) :
  Iter Try.prog 45 #[.pointer (some ⟨B1, 0, none⟩), .pointer (some ⟨B2, 0, none⟩), .pointer (some ⟨B3, 0, none⟩)] route_Path.encs (fun k => k = B3) (fun k => k < wb.heap.size ∨ k = B1 ∨ k = B2 ∨ k = B3) xs w0 := by
 intro l J Jx W hW hJ hJx hY h0
 have hB1 : Boxed W B1 23 (.slice A0 l0.length c0) := (hW.block _ hb1.lt).trans hb1
 have hB2 : Boxed W B2 23 (.slice A1 l1.length c1) := (hW.block _ hb2.lt).trans hb2
 have hB3 : Boxed W B3 3 (.int .i64 c) := (hW.block _ hb3.lt).trans hb3
 have hbe : Below wb.heap.size wb W := hwb.trans (hW.mono hwb.size)
 refine callsIn_of_wp Try.func45 rfl trivial ?_
 simp only [Try.ntmps45, List.size_toArray, List.length_cons, List.length_nil, Nat.reduceAdd, Nat.reduceSub, Array.replicate_succ, Array.replicate_zero, List.push_toArray, List.append_toArray, List.nil_append, List.cons_append]
 refine wpIn_wide.2 ?_
 go_wp2
 go_step3
 go_wp2
 go_step3
 go_wp2
 refine (wpIn_wide (n := 0)).1 ?_
 gi_loopw [5] (fun v wr => ∃ d, route_Path.Rel wb B1 B2 B3 A0 c0 l0 A1 c1 l1 xs J d v wr) (fun v wr => least (fun d => route_Path.Rel wb B1 B2 B3 A0 c0 l0 A1 c1 l1 xs J d v wr))
 case atStart => exact ⟨xs.length, 0, c, -1, rfl, hB1, hB2, hB3, hbe, h0, by omega, by simpa using hxs⟩
 case round =>
  clear hB1 hB2 hB3 hbe h0 hxs hb1 hb2 hb3
  obtain ⟨d, ⟨i, c, u, rfl, hB1, hB2, hB3, hbe, hj, hid, hrest⟩, hmin⟩ := least_of hrel
  clear hrel
  have HMIN := Aside0.mk hmin
  clear hmin
  cases d with
  | zero => simp [hopsE] at hrest
  | succ d =>
   have hi : i < xs.length := by omega
   obtain ⟨x, hx⟩ : ∃ x, xs[i]? = some x := ⟨xs[i], by simp [hi]⟩
   have hdrop : xs.drop i = x :: xs.drop (i + 1) := by
    have := List.getElem?_eq_some_iff.mp hx
    obtain ⟨h1, rfl⟩ := this
    exact List.drop_eq_getElem_cons h1
   rw [hdrop] at hrest
   unfold hopsE at hrest
   cases hdec : route_decide.f l0 l1 c u with
   | none => rw [hdec] at hrest; cases hrest
   | some t =>
    obtain ⟨w1, nx, en⟩ := t
    rw [hdec] at hrest
    simp only [Option.bind_some] at hrest
    have hcl := fun W1 (hw1 : Below wb.heap.size wb W1) => route_decide.calls A0 c0 l0 A1 c1 l1 c u w1 nx en W1 (Kd.C_below hr0 hw1) hc0 (Kd.C_below hr1 hw1) hc1 hdec
    have hC1 := hB1.cell
    have hC2 := hB2.cell
    have hC3 := hB3.cell
    by_cases hen : en = 0
    ·rw [if_pos hen] at hrest
     cases hz : hopsE d l0 l1 nx w1 with
     | none => rw [hz] at hrest; cases hrest
     | some z =>
      rw [hz] at hrest
      simp only [Option.bind_some, Option.some.injEq, List.cons.injEq] at hrest
      obtain ⟨rfl, rfl⟩ := hrest
      have HZ := Aside0.mk hz
      have HX := Aside0.mk hx
      have hen1 := beq_iff_eq.mpr hen
      have hen2 := bne_eq_false_iff_eq.mpr hen
      clear hz hx hdec hdrop hen
      gi_wp2_with (refine ⟨trivial, rfl, ?_⟩; gi_at_call 36; refine (callsIn_wide.2 (hcl _ hbe)).mono ?_; rintro e w2 ⟨rfl, hk2⟩; have hG3 : Boxed w2 B3 3 (.int .i64 c) := (hk2.block _ hB3.lt).trans hB3; have hD3 := hG3.cell; have hF3 := hG3.frozen; obtain ⟨fn, tmps, assign, body, hy, hR⟩ := hY i (⟨c, w1⟩, en) w2 HX.out (hJ _ _ _ hj (.of_below hk2)); have HRR := Aside0.mk hR; clear hR; simp only [route_Path.encs] at hy)
      refine ⟨rfl, HRR.out.mono ?_⟩
      rintro e W3 (⟨rfl, hj3, hk3⟩ | ⟨rfl, hx3⟩)
      ·have hE3 : Boxed W3 B3 3 (.int .i64 c) := hk3.heap hG3 (.inr (.inr (.inr rfl)))
       have hE1 : Boxed W3 B1 23 (.slice A0 l0.length c0) := hk3.heap ((hk2.block _ hB1.lt).trans hB1) (.inr (.inl rfl))
       have hE2 : Boxed W3 B2 23 (.slice A1 l1.length c1) := hk3.heap ((hk2.block _ hB2.lt).trans hB2) (.inr (.inr (.inl rfl)))
       have hbe3 : Below wb.heap.size wb W3 := (hbe.trans (hk2.mono hbe.size)).trans (hk3.below (Nat.le_trans hbe.size hk2.size) (fun k hk => .inl hk))
       have hc3 := hE3.cell
       have hf3 := hE3.frozen
       gi_wp2
       have hrel' : route_Path.Rel wb B1 B2 B3 A0 c0 l0 A1 c1 l1 xs J d (.int .i64 w1) (W3.setCell ⟨B3, 0, none⟩ (.int .i64 nx)) :=
        ⟨i + 1, nx, w1, rfl, hE1.other hn.2.1 _, hE2.other hn.2.2.1 _, by have := blk_set hE3 0 (.int .i64 nx); simpa [Boxed] using this, hbe3.setCell (p := ⟨B3, 0, none⟩) hn.2.2.2 _, hJ _ _ _ hj3 ((Keeps.refl _ _).setCell (p := ⟨B3, 0, none⟩) (fun h => h rfl) _), by omega, HZ.out⟩
       go_roundw
       case rel => exact ⟨d, hrel'⟩
       case measure => have := least_le (R := fun d => route_Path.Rel wb B1 B2 B3 A0 c0 l0 A1 c1 l1 xs J d (.int .i64 w1) (W3.setCell ⟨B3, 0, none⟩ (.int .i64 nx))) hrel'; have := HMIN.out; omega
      ·gi_wp2
       rw [Exit.noGoto_normal]
       go_end0
       exact ⟨⟨_, rfl⟩, .inr ⟨i, hi, hx3⟩⟩
    ·rw [if_neg hen] at hrest
     simp only [Option.some.injEq, List.cons.injEq] at hrest
     obtain ⟨rfl, hnil⟩ := hrest
     have hlen : i + 1 = xs.length := by
      have := congrArg List.length hnil
      simp at this
      omega
     have HX := Aside0.mk hx
     have hen1 := beq_eq_false_iff_ne.mpr hen
     have hen2 := bne_iff_ne.mpr hen
     clear hnil hx hdec hdrop hen
     gi_wp2_with (refine ⟨trivial, rfl, ?_⟩; gi_at_call 36; refine (callsIn_wide.2 (hcl _ hbe)).mono ?_; rintro e w2 ⟨rfl, hk2⟩; have hG3 : Boxed w2 B3 3 (.int .i64 c) := (hk2.block _ hB3.lt).trans hB3; have hD3 := hG3.cell; have hF3 := hG3.frozen; obtain ⟨fn, tmps, assign, body, hy, hR⟩ := hY i (⟨c, w1⟩, en) w2 HX.out (hJ _ _ _ hj (.of_below hk2)); have HRR := Aside0.mk hR; clear hR; simp only [route_Path.encs] at hy)
     refine ⟨rfl, HRR.out.mono ?_⟩
     rintro e W3 (⟨rfl, hj3, hk3⟩ | ⟨rfl, hx3⟩)
     ·gi_wp2
      rw [Exit.noGoto_normal]
      go_end0
      exact ⟨⟨_, rfl⟩, .inl (hlen ▸ hj3)⟩
     ·gi_wp2
      rw [Exit.noGoto_normal]
      go_end0
      exact ⟨⟨_, rfl⟩, .inr ⟨i, hi, hx3⟩⟩
theorem route_hops.calls (A0 : Option Addr) (n0 c0 : Nat) (A1 : Option Addr) (n1 c1 : Nat) (c : Int) (w : World) :
  Calls Try.prog 31 #[.slice A0 n0 c0, .slice A1 n1 c1, .int .i64 c] w fun e w' => e = .returned (.func (.func 45) #[] #[.pointer (some ⟨w.heap.size, 0, none⟩), .pointer (some ⟨w.heap.size + 1, 0, none⟩), .pointer (some ⟨w.heap.size + 2, 0, none⟩)]) ∧ w' = ((w.alloc (.cells #[.slice A0 n0 c0] 23)).alloc (.cells #[.slice A1 n1 c1] 23)).alloc (.cells #[.int .i64 c] 3) := by
 go_enter Try.func31, Try.ntmps31
 go_wp2
 go_ret
 exact ⟨rfl, rfl⟩
theorem route_Path.calls (k : Nat) (A0 : Option Addr) (c0 : Nat) (l0 : List Int) (A1 : Option Addr) (c1 : Nat) (l1 : List Int) (a2 a3 : Int) (r1 : List (S39)) (r2 r3 : Int) (w : World) (hr0 : Kd.C (Kd.int .i64) w A0 l0.length l0) (hc0 : l0.length ≤ c0) (hr1 : Kd.C (Kd.int .i64) w A1 l1.length l1) (hc1 : l1.length ≤ c1) (h : route_Path.f k l0 l1 a2 a3 = some (r1, r2, r3)) :
  Calls Try.prog 11 #[.slice A0 l0.length c0, .slice A1 l1.length c1, .int .i64 a2, .int .i64 a3] w fun e w' => ∃ v0_ : Value, e = .returned (.tuple #[v0_, .int .i64 r2, .int .i64 r3]) ∧ Kd.R k39 39 w' w.heap.size (fun _ => True) v0_ r1 ∧ Below w.heap.size w w' := by
 unfold route_Path.f at h
 cases hcc : route_canCall.f l0 l1 a2 a3 with
 | none => rw [hcc] at h; cases h
 | some b =>
  rw [hcc] at h
  simp only [Option.bind_some] at h
  have hcl := fun W1 (hw1 : Below w.heap.size w W1) => route_canCall.calls A0 c0 l0 A1 c1 l1 a2 a3 b W1 (Kd.C_below hr0 hw1) hc0 (Kd.C_below hr1 hw1) hc1 hcc
  clear hcc
  cases b with
  | false =>
   rw [if_neg (by decide)] at h
   simp only [Option.some.injEq, Prod.mk.injEq] at h
   obtain ⟨rfl, rfl, rfl⟩ := h
   go_enter Try.func11, Try.ntmps11
   go_wp2_with (go_at_call 30; refine (hcl _ (Below.refl _ _)).mono ?_; rintro e w2 ⟨rfl, hk2⟩)
   go_ret3
   exact ⟨_, rfl, Kd.R_nil _ _ _ _ _, hk2⟩
  | true =>
   rw [if_pos rfl] at h
   cases hz : hopsE k l0 l1 a3 (-1) with
   | none => rw [hz] at h; cases h
   | some xs =>
    rw [hz] at h
    simp only [Option.bind_some] at h
    by_cases hle : xs.length ≤ 1000
    ·rw [if_pos hle] at h
     simp only [Option.some.injEq, Prod.mk.injEq] at h
     obtain ⟨rfl, rfl, rfl⟩ := h
     have HZ := Aside0.mk (hopsE.length _ _ _ _ _ _ hz)
     clear hz
     refine (callsIn_wide (n := 0)).1 ?_
     refine callsIn_of_wp_marks Try.func11 rfl trivial ?_
     simp only [Try.ntmps11, List.size_toArray, List.length_cons, List.length_nil, Nat.reduceAdd, Nat.reduceSub, Array.replicate_succ, Array.replicate_zero, List.push_toArray, List.append_toArray, List.nil_append, List.cons_append]
     gi_wp2_with (refine ⟨trivial, rfl, ?_⟩; first | (gi_at_call 30; refine (callsIn_wide.2 (hcl _ (Below.refl _ _))).mono ?_; rintro e w2 ⟨rfl, hk2⟩) | (gi_at_call 31; refine (callsIn_wide.2 (route_hops.calls _ _ _ _ _ _ _ _)).mono ?_; rintro e w' ⟨rfl, rfl⟩))
     obtain ⟨b, hb⟩ : ∃ b, w2.heap.size = b := ⟨_, rfl⟩
     have hwb : w.heap.size ≤ b := by rw [← hb]; exact hk2.size
     obtain ⟨W0, hW0⟩ : ∃ W0, ((((w2.alloc (Obj.cells #[Value.slice none 0 0] 35)).alloc (Obj.cells #[Value.int IntKind.i64 0] 3)).alloc (Obj.cells #[Value.slice A0 l0.length c0] 23)).alloc (Obj.cells #[Value.slice A1 l1.length c1] 23)).alloc (Obj.cells #[Value.int IntKind.i64 a3] 3) = W0 := ⟨_, rfl⟩
     have hsz : W0.heap.size = b + 5 := by rw [← hW0]; simp [hb]
     have hbe : Below w.heap.size w W0 := by rw [← hW0]; exact below_alloc (below_alloc (below_alloc (below_alloc (below_alloc hk2 _) _) _) _) _
     have hX0 : Boxed W0 b 35 (.slice none 0 0) := by
      rw [← hW0, ← hb]; exact ((((Boxed.new _ _ _).alloc _).alloc _).alloc _).alloc _
     have hX1 : Boxed W0 (b + 1) 3 (.int .i64 0) := by
      rw [← hW0, ← hb]; exact (((Boxed.new_at _ _ _ (by simp)).alloc _).alloc _).alloc _
     have hX2 : Boxed W0 (b + 2) 23 (.slice A0 l0.length c0) := by
      rw [← hW0, ← hb]; exact ((Boxed.new_at _ _ _ (by simp)).alloc _).alloc _
     have hX3 : Boxed W0 (b + 3) 23 (.slice A1 l1.length c1) := by
      rw [← hW0, ← hb]; exact (Boxed.new_at _ _ _ (by simp)).alloc _
     have hX4 : Boxed W0 (b + 4) 3 (.int .i64 a3) := by
      rw [← hW0, ← hb]; exact Boxed.new_at _ _ _ (by simp)
     rw [hW0]
     rw [hb]
     clear hW0
     have hit := route_Path.iter w (b + 2) (b + 3) (b + 4) A0 c0 l0 A1 c1 l1 a3 xs HZ.out W0 ⟨by omega, by omega, by omega, by omega⟩ hr0 hc0 hr1 hc1 hbe hX2 hX3 hX4
     refine range_law (gf := 45) rfl (goes_in Try.func45 (by kernel_rfl) rfl) hit (Below.refl _ _) (fun _ => rfl) (fun k hk => by rw [hsz]; omega) (fun k hk => by rw [hsz]; omega)
      (fun i W => ∃ v, Boxed W b 35 v ∧ Kd.R k39 39 W w.heap.size (fun k => b + 7 ≤ k) v ((xs.take i).map Prod.fst) ∧ Boxed W (b + 1) 3 (.int .i64 (lastEnd (xs.take i))) ∧ Below w.heap.size w W)
      (fun _ _ _ => False) ?_ (fun _ _ _ _ h _ => h)
      ⟨_, hX0, Kd.R_nil _ _ _ _ _, hX1, hbe⟩
      (fun i x a' W => (∃ v, Boxed W b 35 v ∧ Kd.R k39 39 W w.heap.size (fun k => b + 7 ≤ k) v ((xs.take i).map Prod.fst) ∧ Boxed W (b + 1) 3 (.int .i64 (lastEnd (xs.take i))) ∧ Below w.heap.size w W) ∧ ∃ Bx, b + 7 ≤ Bx ∧ W.heap[Bx]? = some (.cells #[.int .i64 x.1.f0, .int .i64 x.1.f1] 39 (0, 0)) ∧
       a' = { tmps := #[Value.slice A0 l0.length c0, Value.slice A1 l1.length c1, Value.int IntKind.i64 a2, Value.int IntKind.i64 a3, undef, undef, undef, undef, Value.slice none 0 0, Value.int IntKind.i64 0,
          Value.int IntKind.i64 0, Value.pointer (some { block := b, off := 0 }), Value.pointer (some { block := b + 1, off := 0 }), Value.pointer (some { block := Bx, off := 0 }), Value.int IntKind.i64 x.snd,
          Value.slice A0 l0.length c0, Value.slice A1 l1.length c1, Value.int IntKind.i64 a2, Value.int IntKind.i64 a3, Value.bool true, Value.bool false, Value.slice A0 l0.length c0,
          Value.slice A1 l1.length c1, Value.int IntKind.i64 a3,
          Value.func (Fn.func 45) #[] #[Value.pointer (some { block := b + 1 + 1, off := 0 }), Value.pointer (some { block := b + 1 + 1 + 1, off := 0 }), Value.pointer (some { block := b + 1 + 1 + 2, off := 0 })],
          Value.agg #[Value.int IntKind.i64 x.fst.f0, Value.int IntKind.i64 x.fst.f1], Value.int IntKind.i64 x.snd, undef, undef, undef, undef, undef, undef, undef], defers := [] }) ?_ ?assign ?body ?done (fun _ _ _ _ h _ => h.elim)
     ·rw [hsz]
      rintro i A B ⟨v, hv, hR, he, hB⟩ hk
      refine ⟨v, hk.boxed hv (by omega), Kd.R_step hR (fun k hok hlt => hk.block k (by omega) hlt), hk.boxed he (by omega), hB.trans (hk.below hB.size (by intro k _; omega))⟩
     ·rw [hsz]
      rintro i x a' A B ⟨⟨v, hv, hR, he, hB⟩, Bx, hBx, hblk, ha⟩ hk
      exact ⟨⟨v, hk.boxed hv (by omega), Kd.R_step hR (fun k hok hlt => hk.block k (by omega) hlt), hk.boxed he (by omega), hB.trans (hk.below hB.size (by intro k _; omega))⟩, Bx, hBx, hk.heap hblk (by omega), ha⟩
     case assign =>
      intro i x W hx hlt hI
      simp only [route_Path.encs]
      gi_wp2
      obtain ⟨v, hv, hR, he, hB⟩ := hI
      exact ⟨(Keeps.refl _ _).alloc _, ⟨v, hv.alloc _, Kd.R_alloc hR _, he.alloc _, below_alloc hB _⟩, W.heap.size, by omega, blk_new _ _, rfl⟩
     case body =>
      rintro i x a' W hx hlt ⟨⟨v, hv, hR, he, hB⟩, Bx, hBx, hblk, rfl⟩
      rw [hsz] at hlt
      rw [hsz]
      have hcv := hv.cell
      have hb0 : W.cell? ⟨Bx, 0, none⟩ = some (.int .i64 x.1.f0) := blk_cell hblk 0
      have hb1 : W.cell? ⟨Bx, 1, none⟩ = some (.int .i64 x.1.f1) := blk_cell hblk 1
      have hne : ∀ k, k < b + 7 → some k ≠ v.ownBlock := fun k hk e => by have := hR.1 k e.symm; omega
      have hi : i < xs.length := (List.getElem?_eq_some_iff.mp hx).1
      have hlen : ((xs.take i).map Prod.fst).length = i := by simp; omega
      have HLEN := Aside0.mk hlen
      have HX := Aside0.mk hx
      clear hx hlen hblk
      gi_wp2_with (gi_at_builtin; refine R_append_in k39 w.heap.size rfl _ _ 35 39 (.agg #[(.int .i64 0), (.int .i64 0)]) 16 rfl Try.underlying35 info39 rfl (by decide) (by omega) v ((xs.take i).map Prod.fst) (x.1 : S39) [.int .i64 x.1.f0, .int .i64 x.1.f1] (fun k => b + 7 ≤ k) (fun _ => False) rfl rfl ?aP (fun _ hk => hk.elim) ?aF ?aO ?aS ?aL ?_; (case aP => exact k39_mkM _ _ _ x.1); (case aF => exact fun k hk => by omega); (case aO => exact hR); (case aS => exact hB.size); (case aL => rw [HLEN.out]; omega); intro v1 w1 ho hg hat; obtain ⟨Av, cv, rfl⟩ := Kd.R_slice ho; have hv1 : Boxed w1 b 35 v := blk_grown hv hg (hne b (by omega)); have hc1 := hv1.cell; have hf1 := hv1.frozen; have he1 : Boxed w1 (b + 1) 3 (.int .i64 (lastEnd (xs.take i))) := blk_grown he hg (hne (b + 1) (by omega)); have hc2 := he1.cell; have hf2 := he1.frozen)
      have hl : ((xs.take i).map Prod.fst ++ [x.1]).length = min i xs.length + 1 := by simp
      rw [hl] at ho
      have ht : xs.take (i + 1) = xs.take i ++ [x] := by rw [List.take_add_one, HX.out]; rfl
      have hm : (xs.take (i + 1)).map Prod.fst = (xs.take i).map Prod.fst ++ [x.1] := by rw [ht]; simp
      refine ⟨((Keeps.of_grown hg (fun k e hz => hne k (by omega) e.symm)).setCell (p := ⟨b, 0, none⟩) (fun h => by have h' : b = b + 5 ∨ b = b + 5 + 1 ∨ b < w.heap.size ∨ b = b + 2 ∨ b = b + 3 ∨ b = b + 4 := h; omega) _).setCell (p := ⟨b + 1, 0, none⟩) (fun h => by have h' : b + 1 = b + 5 ∨ b + 1 = b + 5 + 1 ∨ b + 1 < w.heap.size ∨ b + 1 = b + 2 ∨ b + 1 = b + 3 ∨ b + 1 = b + 4 := h; omega) _, _, (hv1.put _).other (by omega) _, ?_, ?_, ?_⟩
      ·rw [hm]
       exact Kd.R_far (Kd.R_far ho (p := ⟨b, 0, none⟩) (fun k hk => by show k ≠ b; omega) _) (p := ⟨b + 1, 0, none⟩) (fun k hk => by show k ≠ b + 1; omega) _
      ·rw [ht, lastEnd_snoc]
       exact (he1.other (by omega) _).put _
      ·exact ((hB.grown hg hB.size (fun k e => by have := hR.1 k e; omega)).setCell (p := ⟨b, 0, none⟩) hwb _).setCell (p := ⟨b + 1, 0, none⟩) (by show w.heap.size ≤ b + 1; omega) _
     case done =>
      rintro W ⟨v, hv, hR, he, hB⟩ hD
      rw [hsz] at hD ⊢
      rw [List.take_length] at hR he
      have hcv := hv.cell
      have hce := he.cell
      gi_wp2
      refine wpIn_wide.2 ?_
      go_quiet (fail)
      gi_wp2
      have hK : Keeps (fun k => k ≠ b + 5) W ((W.drewN nq).putObj (b + 5) (.deferred none)) := ((Keeps.refl _ W).drewN nq).trans (Keeps.putObj _ _ _ (fun h => h rfl))
      refine ⟨by simp, .inl ⟨_, _, rfl, run_takeDeferred (w := W.drewN nq) hD, ?_⟩⟩
      refine ⟨_, results_tmp3 rfl _ _ _, v, rfl, ?_, hB.trans (hK.below hB.size (fun k hk => by omega))⟩
      exact Kd.R_mono (Kd.R_step hR (fun k hk hlt => hK.block k (by omega) hlt)) (fun _ _ => trivial)
    ·rw [if_neg hle] at h; cases h
end Go.Proofs.Ytlhhcjlcaacfpaa.P
