-- PRINTED by print.py (a twelfth state) out of the translation. Not trusted: Lean checks it.
import Derived.Test.YtlhhcjlcaacfpaaPx0
namespace Go.Proofs.Ytlhhcjlcaacfpaa.P
open Go.RowKit Go.Proofs.YtlhhcjlcaacfpaaW.PrintWords Go.Proofs.YtlhhcjlcaacfpaaW.PrintLast Go.Proofs.YtlhhcjlcaacfpaaW.PrintMore Go.Proofs.YtlhhcjlcaacfpaaH Go.Proofs.YtlhhcjlcaacfpaaR Go.Proofs.YtlhhcjlcaacfpaaM
attribute [local go_sem] max2_int min2_int max_two min_two max_three min_three max_four min_four   -- for this text's walks alone
set_option linter.unusedVariables false
set_option linter.unusedSimpArgs false

/-! ### dialtone/block.Valid: function 32 -/
def rangeB (r : S55) : Bool := decide (0 ≤ r.f0) && decide (r.f0 < r.f1) && decide (r.f1 ≤ 100000000)
def carrierB (c : Int) : Bool := decide (0 ≤ c) && decide (c ≤ 7)
theorem block_isRange.calls (x y : Int) (w : World) : Calls Try.prog 56 #[.agg #[.int .i64 x, .int .i64 y]] w fun e w' => e = .returned (.bool (rangeB ⟨x, y⟩)) ∧ Below w.heap.size w w' := by
 by_cases h1 : 0 ≤ x <;> by_cases h2 : x < y <;> by_cases h3 : y ≤ 100000000 <;> try (exfalso; omega)
 all_goals
  go_enter Try.func56, Try.ntmps56
  go_wp2
  go_ret
  exact ⟨by simp [rangeB, h1, h2, h3], by repeat (first | exact Below.refl _ _ | apply below_alloc | apply pw_below_drewN | apply below_drew1)⟩
theorem block_isCarrier.calls (c : Int) (w : World) : Calls Try.prog 60 #[.int .i64 c] w fun e w' => e = .returned (.bool (carrierB c)) ∧ Drawn0 w w' := by
 by_cases h1 : 0 ≤ c <;> by_cases h2 : c ≤ 7 <;>
 ·go_enter Try.func60, Try.ntmps60
  go_wp2
  go_ret
  exact ⟨by simp [carrierB, h1, h2], by repeat (first | exact Drawn0.refl _ | apply Drawn0.step)⟩
abbrev blkV (b : S99) : Value := .agg #[.int .i64 b.f0.f0, .int .i64 b.f0.f1, .int .i64 b.f1]
def blkC (b : S99) : Obj := .cells #[.int .i64 b.f0.f0, .int .i64 b.f0.f1, .int .i64 b.f1] 99 (0, 0)
def badB (last b : S99) : Bool := !rangeB b.f0 || !carrierB b.f1 || decide (b.f0.f0 < last.f0.f1) || (b.f0.f0 == last.f0.f1 && b.f1 == last.f1)
theorem blk_set3 {w : World} {B : Nat} {t : TypeId} {a0 a1 a2 b0 b1 b2 : Value} (h : w.heap[B]? = some (.cells #[a0, a1, a2] t (0, 0))) :
  (((w.setCell ⟨B, 0, none⟩ b0).setCell ⟨B, 1, none⟩ b1).setCell ⟨B, 2, none⟩ b2).heap[B]? = some (.cells #[b0, b1, b2] t (0, 0)) := by
 have h1 := blk_set h 0 b0
 have h2 := blk_set h1 1 b1
 have h3 := blk_set h2 2 b2
 simpa using h3
theorem block_Valid.w74 {w : World} {B : Nat} {x y c lx ly lc : Int} (hB : w.heap[B]? = some (.cells #[.int .i64 lx, .int .i64 ly, .int .i64 lc] 99 (0, 0))) (W : World)
  (hW : W = ((((w.setCell ⟨B, 0, none⟩ (.int .i64 x)).setCell ⟨B, 1, none⟩ (.int .i64 y)).setCell ⟨B, 2, none⟩ (.int .i64 c)).alloc (.cells #[.int .i64 x, .int .i64 y, .int .i64 c] 99)).alloc (.cells #[.int .i64 lx, .int .i64 ly, .int .i64 lc] 99)) :
  W.heap[w.heap.size]? = some (.cells #[.int .i64 x, .int .i64 y, .int .i64 c] 99 (0, 0)) ∧ W.heap[w.heap.size + 1]? = some (.cells #[.int .i64 lx, .int .i64 ly, .int .i64 lc] 99 (0, 0)) ∧ W.heap[B]? = some (.cells #[.int .i64 x, .int .i64 y, .int .i64 c] 99 (0, 0)) ∧ Keeps (fun k => k ≠ B) w W := by
 have h3 := blk_set3 (b0 := .int .i64 x) (b1 := .int .i64 y) (b2 := .int .i64 c) hB
 obtain ⟨w3, hw3⟩ : ∃ w3, ((w.setCell ⟨B, 0, none⟩ (.int .i64 x)).setCell ⟨B, 1, none⟩ (.int .i64 y)).setCell ⟨B, 2, none⟩ (.int .i64 c) = w3 := ⟨_, rfl⟩
 have hs : w3.heap.size = w.heap.size := by rw [← hw3]; simp [World.setCell]
 have hk : Keeps (fun k => k ≠ B) w w3 := by rw [← hw3]; exact (((Keeps.refl _ _).setCell (p := ⟨B, 0, none⟩) (fun h => h rfl) _).setCell (p := ⟨B, 1, none⟩) (fun h => h rfl) _).setCell (p := ⟨B, 2, none⟩) (fun h => h rfl) _
 rw [hw3] at h3 hW
 subst hW
 have e1 := blk_new w3 (.cells #[.int .i64 x, .int .i64 y, .int .i64 c] 99 (0, 0))
 have e2 := blk_new (w3.alloc (.cells #[.int .i64 x, .int .i64 y, .int .i64 c] 99)) (.cells #[.int .i64 lx, .int .i64 ly, .int .i64 lc] 99 (0, 0))
 rw [hs] at e1
 rw [World.size_alloc, hs] at e2
 have hb : Below w3.heap.size w3 ((w3.alloc (.cells #[.int .i64 x, .int .i64 y, .int .i64 c] 99)).alloc (.cells #[.int .i64 lx, .int .i64 ly, .int .i64 lc] 99)) := below_alloc (below_alloc (Below.refl _ _) _) _
 exact ⟨((below_alloc (Below.refl _ _) _).block _ (blk_lt e1)).trans e1, e2, (hb.block _ (blk_lt h3)).trans h3, hk.then_below hb⟩
set_option maxHeartbeats 4000000 in
theorem block_Valid.c74 (last b : S99) (B : Nat) (w : World) (hB : w.heap[B]? = some (blkC last)) :
  Calls Try.prog 74 #[blkV b, .pointer (some ⟨B, 0, none⟩)] w fun e w' => e = .returned (.bool (badB last b)) ∧ w'.heap[B]? = some (blkC b) ∧ Keeps (fun k => k ≠ B) w w' := by
 obtain ⟨⟨x, y⟩, c⟩ := b
 obtain ⟨⟨lx, ly⟩, lc⟩ := last
 have hlt := blk_lt hB
 have hne : w.heap.size ≠ B := by omega
 have c0 : ∀ o, (w.alloc o).cell? ⟨B, 0, none⟩ = some (.int .i64 lx) := fun o => pw_cell_below (below_alloc (Below.refl _ _) o) (blk_cell hB 0)
 have c1 : ∀ o, (w.alloc o).cell? ⟨B, 1, none⟩ = some (.int .i64 ly) := fun o => pw_cell_below (below_alloc (Below.refl _ _) o) (blk_cell hB 1)
 have c2 : ∀ o, (w.alloc o).cell? ⟨B, 2, none⟩ = some (.int .i64 lc) := fun o => pw_cell_below (below_alloc (Below.refl _ _) o) (blk_cell hB 2)
 have d0 : w.cell? ⟨B, 0, none⟩ = some (.int .i64 lx) := blk_cell hB 0
 have d1 : w.cell? ⟨B, 1, none⟩ = some (.int .i64 ly) := blk_cell hB 1
 have d2 : w.cell? ⟨B, 2, none⟩ = some (.int .i64 lc) := blk_cell hB 2
 have f0 : w.frozen? ⟨B, 0, none⟩ = false := blk_frozen hB 0
 have f1 : w.frozen? ⟨B, 1, none⟩ = false := blk_frozen hB 1
 have f2 : w.frozen? ⟨B, 2, none⟩ = false := blk_frozen hB 2
 have HB := Aside0.mk hB
 clear hB
 obtain ⟨q, hq⟩ : ∃ q, badB ⟨⟨lx, ly⟩, lc⟩ ⟨⟨x, y⟩, c⟩ = q := ⟨_, rfl⟩
 rw [hq]
 have HQ := Aside0.mk hq
 clear hq
 cases h1 : rangeB ⟨x, y⟩ with
 | false =>
  go_enter Try.func74, Try.ntmps74
  go_wp2_with (first
   | (go_at_call 56; refine (block_isRange.calls _ _ _).mono ?_; rintro e w2 ⟨rfl, hb2⟩; obtain ⟨p1, p2, p3, p4⟩ := block_Valid.w74 HB.out _ rfl; have q1 := (hb2.block _ (blk_lt p1)).trans p1; have q2 := (hb2.block _ (blk_lt p2)).trans p2; have q3 := (hb2.block _ (blk_lt p3)).trans p3; have HK := Aside0.mk (p4.then_below hb2); clear hb2 p1 p2 p3 p4; have r0 := blk_cell q1 0; have r1 := blk_cell q1 1; have r2 := blk_cell q1 2; have s0 := blk_cell q2 0; have s1 := blk_cell q2 1; have s2 := blk_cell q2 2; simp only [List.getElem?_toArray, List.getElem?_cons_zero, List.getElem?_cons_succ] at r0 r1 r2 s0 s1 s2)
   | (go_at_call 60; refine (block_isCarrier.calls _ _).mono ?_; rintro e w3 ⟨rfl, m3, rfl⟩))
  go_ret
  exact ⟨by rw [← HQ.out]; simp [badB, h1], q3, HK.out⟩
 | true =>
  cases h2 : carrierB c with
  | false =>
   go_enter Try.func74, Try.ntmps74
   go_wp2_with (first
   | (go_at_call 56; refine (block_isRange.calls _ _ _).mono ?_; rintro e w2 ⟨rfl, hb2⟩; obtain ⟨p1, p2, p3, p4⟩ := block_Valid.w74 HB.out _ rfl; have q1 := (hb2.block _ (blk_lt p1)).trans p1; have q2 := (hb2.block _ (blk_lt p2)).trans p2; have q3 := (hb2.block _ (blk_lt p3)).trans p3; have HK := Aside0.mk (p4.then_below hb2); clear hb2 p1 p2 p3 p4; have r0 := blk_cell q1 0; have r1 := blk_cell q1 1; have r2 := blk_cell q1 2; have s0 := blk_cell q2 0; have s1 := blk_cell q2 1; have s2 := blk_cell q2 2; simp only [List.getElem?_toArray, List.getElem?_cons_zero, List.getElem?_cons_succ] at r0 r1 r2 s0 s1 s2)
   | (go_at_call 60; refine (block_isCarrier.calls _ _).mono ?_; rintro e w3 ⟨rfl, m3, rfl⟩))
   go_ret
   exact ⟨by rw [← HQ.out]; simp [badB, h1, h2], q3, HK.out.drewN _⟩
  | true =>
   by_cases h3 : x < ly
   ·go_enter Try.func74, Try.ntmps74
    go_wp2_with (first
   | (go_at_call 56; refine (block_isRange.calls _ _ _).mono ?_; rintro e w2 ⟨rfl, hb2⟩; obtain ⟨p1, p2, p3, p4⟩ := block_Valid.w74 HB.out _ rfl; have q1 := (hb2.block _ (blk_lt p1)).trans p1; have q2 := (hb2.block _ (blk_lt p2)).trans p2; have q3 := (hb2.block _ (blk_lt p3)).trans p3; have HK := Aside0.mk (p4.then_below hb2); clear hb2 p1 p2 p3 p4; have r0 := blk_cell q1 0; have r1 := blk_cell q1 1; have r2 := blk_cell q1 2; have s0 := blk_cell q2 0; have s1 := blk_cell q2 1; have s2 := blk_cell q2 2; simp only [List.getElem?_toArray, List.getElem?_cons_zero, List.getElem?_cons_succ] at r0 r1 r2 s0 s1 s2)
   | (go_at_call 60; refine (block_isCarrier.calls _ _).mono ?_; rintro e w3 ⟨rfl, m3, rfl⟩))
    go_ret
    exact ⟨by rw [← HQ.out]; simp [badB, h1, h2, h3], q3, HK.out.drewN _⟩
   ·by_cases h4 : x = ly
    ·by_cases h5 : c = lc
     ·subst h4
      subst h5
      go_enter Try.func74, Try.ntmps74
      go_wp2_with (first
   | (go_at_call 56; refine (block_isRange.calls _ _ _).mono ?_; rintro e w2 ⟨rfl, hb2⟩; obtain ⟨p1, p2, p3, p4⟩ := block_Valid.w74 HB.out _ rfl; have q1 := (hb2.block _ (blk_lt p1)).trans p1; have q2 := (hb2.block _ (blk_lt p2)).trans p2; have q3 := (hb2.block _ (blk_lt p3)).trans p3; have HK := Aside0.mk (p4.then_below hb2); clear hb2 p1 p2 p3 p4; have r0 := blk_cell q1 0; have r1 := blk_cell q1 1; have r2 := blk_cell q1 2; have s0 := blk_cell q2 0; have s1 := blk_cell q2 1; have s2 := blk_cell q2 2; simp only [List.getElem?_toArray, List.getElem?_cons_zero, List.getElem?_cons_succ] at r0 r1 r2 s0 s1 s2)
   | (go_at_call 60; refine (block_isCarrier.calls _ _).mono ?_; rintro e w3 ⟨rfl, m3, rfl⟩))
      go_ret
      exact ⟨by rw [← HQ.out]; simp [badB, h1, h2], q3, HK.out.drewN _⟩
     ·have h5b : (c == lc) = false := beq_eq_false_iff_ne.mpr h5
      subst h4
      go_enter Try.func74, Try.ntmps74
      go_wp2_with (first
   | (go_at_call 56; refine (block_isRange.calls _ _ _).mono ?_; rintro e w2 ⟨rfl, hb2⟩; obtain ⟨p1, p2, p3, p4⟩ := block_Valid.w74 HB.out _ rfl; have q1 := (hb2.block _ (blk_lt p1)).trans p1; have q2 := (hb2.block _ (blk_lt p2)).trans p2; have q3 := (hb2.block _ (blk_lt p3)).trans p3; have HK := Aside0.mk (p4.then_below hb2); clear hb2 p1 p2 p3 p4; have r0 := blk_cell q1 0; have r1 := blk_cell q1 1; have r2 := blk_cell q1 2; have s0 := blk_cell q2 0; have s1 := blk_cell q2 1; have s2 := blk_cell q2 2; simp only [List.getElem?_toArray, List.getElem?_cons_zero, List.getElem?_cons_succ] at r0 r1 r2 s0 s1 s2)
   | (go_at_call 60; refine (block_isCarrier.calls _ _).mono ?_; rintro e w3 ⟨rfl, m3, rfl⟩))
      all_goals go_ret
      all_goals exact ⟨by rw [← HQ.out]; simp [badB, h1, h2, h3, h5], q3, HK.out.drewN _⟩
    ·have h4b : (x == ly) = false := beq_eq_false_iff_ne.mpr h4
     go_enter Try.func74, Try.ntmps74
     go_wp2_with (first
   | (go_at_call 56; refine (block_isRange.calls _ _ _).mono ?_; rintro e w2 ⟨rfl, hb2⟩; obtain ⟨p1, p2, p3, p4⟩ := block_Valid.w74 HB.out _ rfl; have q1 := (hb2.block _ (blk_lt p1)).trans p1; have q2 := (hb2.block _ (blk_lt p2)).trans p2; have q3 := (hb2.block _ (blk_lt p3)).trans p3; have HK := Aside0.mk (p4.then_below hb2); clear hb2 p1 p2 p3 p4; have r0 := blk_cell q1 0; have r1 := blk_cell q1 1; have r2 := blk_cell q1 2; have s0 := blk_cell q2 0; have s1 := blk_cell q2 1; have s2 := blk_cell q2 2; simp only [List.getElem?_toArray, List.getElem?_cons_zero, List.getElem?_cons_succ] at r0 r1 r2 s0 s1 s2)
   | (go_at_call 60; refine (block_isCarrier.calls _ _).mono ?_; rintro e w3 ⟨rfl, m3, rfl⟩))
     all_goals go_ret
     all_goals exact ⟨by rw [← HQ.out]; simp [badB, h1, h2, h3, h4], q3, HK.out.drewN _⟩
def anyBad : S99 → List S99 → Bool
 | _, [] => false
 | last, b :: l => badB last b || anyBad b l
def mapB (l : List S99) : Bool := decide (l.length ≤ 40) && !anyBad ⟨⟨0, 0⟩, -1⟩ l
theorem block_Valid.c53 (wb : World) (A0 : Option Addr) (c0 : Nat) (l0 : List S99) (last : S99) (B : Nat) (w : World) (hr0 : Kd.C k99 wb A0 l0.length l0) (hc0 : l0.length ≤ c0) (hwb : Below wb.heap.size wb w) (hBn : wb.heap.size ≤ B) (hB : w.heap[B]? = some (blkC last)) :
  Calls Try.prog 53 #[.slice A0 l0.length c0, .func (.func 74) #[] #[.pointer (some ⟨B, 0, none⟩)]] w fun e w' => ∃ n : Int, e = .returned (.int .i64 n) ∧ decide (0 ≤ n) = anyBad last l0 ∧ Below wb.heap.size wb w' := by
 have hm0 := Kd.C_max hr0
 have HR0 := Aside0.mk hr0
 clear hr0
 go_enter Try.func53, Try.ntmps53
 go_wp2
 go_loopw [8] (fun v wr => ∃ (i : Nat) (y : S99), v = .int .i64 (i : Int) ∧ i ≤ l0.length ∧ Aside0 (anyBad last l0 = anyBad y (l0.drop i)) ∧ Aside0 (wr.heap[B]? = some (blkC y)) ∧ Below wb.heap.size wb wr) (fun v _ => (l0.length - intOf v).toNat)
 case atStart => exact ⟨0, last, rfl, by omega, ⟨rfl⟩, ⟨hB⟩, hwb⟩
 case round =>
  obtain ⟨i, y, rfl, hi, HE, HY, hb0⟩ := hrel
  by_cases hlt : i < l0.length
  ·obtain ⟨ad, e, hu0, hu1, hu2⟩ := at_T99 (Kd.C_below HR0.out hb0) (i : Int) (by omega) (by omega)
   cases e
   rw [Int.toNat_natCast] at hu0 hu1 hu2
   have hdrop : l0.drop i = rd_T99 l0 i :: l0.drop (i + 1) := by
    rw [List.drop_eq_getElem_cons hlt]
    simp [rd_T99, hlt]
   generalize hx : rd_T99 l0 (i : Int) = x at hu0 hu1 hu2 hdrop
   have HDR := Aside0.mk hdrop
   clear hx hdrop
   have HC := Aside0.mk (block_Valid.c74 y x B wr HY.out)
   cases hb : badB y x with
   | true =>
    go_wp2_with (go_at_call 74; refine HC.out.mono ?_; rw [hb]; rintro e w2 ⟨rfl, hq2, hk2⟩)
    go_ret
    refine ⟨i, rfl, ?_, hb0.trans (hk2.below hb0.size (fun k hk e => by omega))⟩
    rw [HE.out, HDR.out]
    simp [anyBad, hb]
   | false =>
    go_wp2_with (go_at_call 74; refine HC.out.mono ?_; rw [hb]; rintro e w2 ⟨rfl, hq2, hk2⟩)
    go_roundw
    case rel =>
     refine ⟨i + 1, x, by go_num, by omega, ⟨?_⟩, ⟨hq2⟩, hb0.trans (hk2.below hb0.size (fun k hk e => by omega))⟩
     rw [HE.out, HDR.out]
     simp [anyBad, hb]
    case measure => simp [intOf]; omega
  ·have hx : i = l0.length := by omega
   go_wp2
   go_ret
   refine ⟨-1, rfl, ?_, by repeat (first | exact hb0 | apply pw_below_drewN)⟩
   rw [HE.out, hx, List.drop_length]
   simp [anyBad]
theorem block_Valid.c75 (wb : World) (A0 : Option Addr) (c0 : Nat) (l0 : List S99) (last : S99) (B : Nat) (w : World) (hr0 : Kd.C k99 wb A0 l0.length l0) (hc0 : l0.length ≤ c0) (hwb : Below wb.heap.size wb w) (hBn : wb.heap.size ≤ B) (hB : w.heap[B]? = some (blkC last)) :
  Calls Try.prog 75 #[.slice A0 l0.length c0, .func (.func 74) #[] #[.pointer (some ⟨B, 0, none⟩)]] w fun e w' => e = .returned (.bool (anyBad last l0)) ∧ Below wb.heap.size wb w' := by
 go_enter Try.func75, Try.ntmps75
 go_wp2_with (go_at_call 53; refine (block_Valid.c53 wb _ _ _ last B _ hr0 hc0 hwb hBn hB).mono ?_; rintro e w' ⟨n, rfl, hn, hk⟩)
 go_ret
 exact ⟨by rw [← hn]; simp, by repeat (first | exact hk | apply pw_below_drewN)⟩
def block_Valid.f (l0 : List (S99)) : Option Bool := some (mapB l0)
theorem block_Valid.calls (A0 : Option Addr) (c0 : Nat) (l0 : List (S99)) (r : Bool) (w : World) (hr0 : Kd.C k99 w A0 l0.length l0) (hc0 : l0.length ≤ c0) (h : block_Valid.f l0 = some r) :
  Calls Try.prog 55 #[.slice A0 l0.length c0] w fun e w' => e = .returned (.bool r) ∧ Below w.heap.size w w' := by
 obtain rfl := Option.some.inj h
 have HR0 := Aside0.mk hr0
 have hm := Kd.C_max hr0
 clear h hr0
 have HF := Aside0.mk (show mapB l0 = (decide (l0.length ≤ 40) && !anyBad ⟨⟨0, 0⟩, -1⟩ l0) from rfl)
 generalize mapB l0 = r at HF
 by_cases hl : l0.length ≤ 40
 ·have hl2 : (l0.length : Int) ≤ 40 := by omega
  go_enter Try.func55, Try.ntmps55
  go_wp2_with (go_at_call 75; refine (block_Valid.c75 w _ _ _ ⟨⟨0, 0⟩, -1⟩ w.heap.size _ HR0.out hc0 (by repeat (first | exact Below.refl _ _ | apply below_alloc | apply pw_below_drewN | apply below_drew1)) (Nat.le_refl _) (blk_new _ _)).mono ?_; rintro e w' ⟨rfl, hk⟩)
  go_ret
  exact ⟨by rw [HF.out, decide_eq_true hl]; simp, by repeat (first | exact hk | apply pw_below_drewN)⟩
 ·have hl2 : ¬ (l0.length : Int) ≤ 40 := by omega
  go_enter Try.func55, Try.ntmps55
  go_wp2
  go_ret
  exact ⟨by rw [HF.out, decide_eq_false hl]; simp, by repeat (first | exact Below.refl _ _ | apply below_alloc | apply pw_below_drewN | apply below_drew1)⟩
end Go.Proofs.Ytlhhcjlcaacfpaa.P
