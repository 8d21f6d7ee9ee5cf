-- PRINTED by print.py (a twelfth state) out of the translation. Not trusted: Lean checks it.
import Derived.Test.YtlhhcjlcaacfpaaPx0
import Derived.Test.YtlhhcjlcaacfpaaPx20
namespace Go.Proofs.Ytlhhcjlcaacfpaa.P
open Go.RowKit Go.Proofs.YtlhhcjlcaacfpaaW.PrintWords Go.Proofs.YtlhhcjlcaacfpaaW.PrintLast Go.Proofs.YtlhhcjlcaacfpaaW.PrintMore Go.Proofs.YtlhhcjlcaacfpaaH Go.Proofs.YtlhhcjlcaacfpaaR Go.Proofs.YtlhhcjlcaacfpaaM
attribute [local go_sem] max2_int min2_int max_two min_two max_three min_three max_four min_four   -- for this text's walks alone
set_option linter.unusedVariables false
set_option linter.unusedSimpArgs false

/-! ### combine: function 32 -/
attribute [local go_sem] Oper.semAt_some
def stepC (h : Int → Int → Int) (out : List S99) (q : S55 × Int × Int) : List S99 :=
 if h q.2.1 q.2.2 = -1 then out else
  match out.getLast? with
  | some b => if b.f0.f1 = q.1.f0 ∧ b.f1 = h q.2.1 q.2.2 then out.set (out.length - 1) ⟨⟨b.f0.f0, q.1.f1⟩, b.f1⟩ else out ++ [⟨q.1, h q.2.1 q.2.2⟩]
  | none => out ++ [⟨q.1, h q.2.1 q.2.2⟩]
def combL (h : Int → Int → Int) (xs : List (S55 × Int × Int)) : List S99 := xs.foldl (stepC h) []
theorem combL_snoc (h : Int → Int → Int) (xs : List (S55 × Int × Int)) (q : S55 × Int × Int) : combL h (xs ++ [q]) = stepC h (combL h xs) q := by simp [combL]
theorem stepC_len (h : Int → Int → Int) (out : List S99) (q : S55 × Int × Int) : (stepC h out q).length ≤ out.length + 1 := by
 unfold stepC
 split
 ·omega
 ·split
  ·split <;> simp
  ·simp
theorem foldC_len (h : Int → Int → Int) : ∀ (xs : List (S55 × Int × Int)) (out : List S99), (xs.foldl (stepC h) out).length ≤ out.length + xs.length
 | [], out => by simp
 | q :: xs, out => by
  have h1 := foldC_len h xs (stepC h out q)
  have h2 := stepC_len h out q
  simp only [List.foldl_cons, List.length_cons]
  omega
theorem combL_len (h : Int → Int → Int) (xs : List (S55 × Int × Int)) : (combL h xs).length ≤ xs.length := by
 have := foldC_len h xs []
 simpa [combL] using this
theorem piecesE.length : ∀ k a b p z, piecesE k a b p = some z → piecesE (z.length + 1) a b p = some z
 | 0, _, _, _, _, h => by simp [piecesE] at h
 | k + 1, a, b, p, z, hz => by
  unfold piecesE at hz
  by_cases hp : p ≤ 99999999
  ·rw [if_pos hp] at hz
   obtain ⟨y, hy, rfl⟩ := piecesE.split hz
   simp only [List.length_cons]
   unfold piecesE
   rw [if_pos hp, piecesE.length k _ _ _ y hy]
   rfl
  ·rw [if_neg hp] at hz
   cases hz
   unfold piecesE
   rw [if_neg hp]
def combF (h : Int → Int → Int) (a b : List S99) : Option (List S99 × Int) :=
 (piecesE 200 a b 0).bind fun xs => if xs.length ≤ 1000 then (if 40 < (combL h xs).length then some ([], 130) else some (combL h xs, 0)) else none
theorem block_pieces.calls (A0 : Option Addr) (n0 c0 : Nat) (A1 : Option Addr) (n1 c1 : Nat) (w : World) :
  Calls Try.prog 76 #[.slice A0 n0 c0, .slice A1 n1 c1] w fun e w' => e = .returned (.func (.func 84) #[] #[.pointer (some ⟨w.heap.size + 2, 0, none⟩), .pointer (some ⟨w.heap.size, 0, none⟩), .pointer (some ⟨w.heap.size + 1, 0, none⟩)]) ∧ w' = ((w.alloc (.cells #[.slice A0 n0 c0] 62)).alloc (.cells #[.slice A1 n1 c1] 62)).alloc (.cells #[.func (.func 83) #[] #[]] 129) := by
 go_enter Try.func76, Try.ntmps76
 go_wp2
 go_ret
 exact ⟨rfl, rfl⟩
theorem stepC_skip {h : Int → Int → Int} {out : List S99} {r : S55} {x y : Int} (hk : h x y = -1) : stepC h out (r, x, y) = out := by simp [stepC, hk]
theorem stepC_nil {h : Int → Int → Int} {r : S55} {x y : Int} (hk : h x y ≠ -1) : stepC h [] (r, x, y) = [] ++ [⟨r, h x y⟩] := by simp [stepC, hk]
theorem stepC_app {h : Int → Int → Int} {init : List S99} {last : S99} {r : S55} {x y : Int} (hk : h x y ≠ -1) (hne : ¬ (last.f0.f1 = r.f0 ∧ last.f1 = h x y)) : stepC h (init ++ [last]) (r, x, y) = init ++ [last] ++ [⟨r, h x y⟩] := by
 unfold stepC
 rw [if_neg hk]
 simp only [List.getLast?_append, List.getLast?_singleton, Option.some_or]
 rw [if_neg hne]
theorem stepC_ext {h : Int → Int → Int} {init : List S99} {last : S99} {r : S55} {x y : Int} (hk : h x y ≠ -1) (he : last.f0.f1 = r.f0 ∧ last.f1 = h x y) : stepC h (init ++ [last]) (r, x, y) = (init ++ [last]).set init.length ⟨⟨last.f0.f0, r.f1⟩, last.f1⟩ := by
 unfold stepC
 rw [if_neg hk]
 simp only [List.getLast?_append, List.getLast?_singleton, Option.some_or]
 rw [if_pos he]
 simp
/-- Out of the row's last element. -/
theorem combL_last {α : Type} {l : List α} (h : l ≠ []) : ∃ init last, l = init ++ [last] := ⟨l.dropLast, l.getLast h, (List.dropLast_concat_getLast h).symm⟩
set_option maxHeartbeats 4000000 in
set_option maxRecDepth 100000 in
theorem block_combine.calls (hf : Nat) (h : Int → Int → Int) (eg : ∀ args w, (callFunc hf args).run Try.prog w = .ok (.enter hf args) w)
  (hcall : ∀ x y W, Calls Try.prog hf #[.int .i64 x, .int .i64 y] W fun e w' => e = .returned (.int .i64 (h x y)) ∧ Drawn0 W w')
  (A0 : Option Addr) (c0 : Nat) (l0 : List S99) (A1 : Option Addr) (c1 : Nat) (l1 : List S99) (r1 : List S99) (r2 : Int) (wb w : World) (hwb : Below wb.heap.size wb w) (hr0 : Kd.C k99 w A0 l0.length l0) (hc0 : l0.length ≤ c0) (hr1 : Kd.C k99 w A1 l1.length l1) (hc1 : l1.length ≤ c1) (hh : combF h l0 l1 = some (r1, r2)) :
  Calls Try.prog 57 #[.slice A0 l0.length c0, .slice A1 l1.length c1, .func (.func hf) #[] #[]] w fun e w' => ∃ v0_ : Value, e = .returned (.tuple #[v0_, .int .i64 r2]) ∧ Kd.R k99 99 w' wb.heap.size (fun _ => True) v0_ r1 ∧ Below wb.heap.size wb w' := by
 unfold combF at hh
 cases hz : piecesE 200 l0 l1 0 with
 | none => rw [hz] at hh; cases hh
 | some xs =>
  rw [hz] at hh
  simp only [Option.bind_some] at hh
  by_cases hle : xs.length ≤ 1000
  ·rw [if_pos hle] at hh
   have HZ := Aside0.mk (piecesE.length _ _ _ _ _ hz)
   have HH := Aside0.mk hh
   have HC := Aside0.mk hcall
   have EG := Aside0.mk eg
   clear hz hh hcall eg
   refine (callsIn_wide (n := 0)).1 ?_
   refine callsIn_of_wp_marks Try.func57 rfl trivial ?_
   simp only [Try.ntmps57, List.size_toArray, List.length_cons, List.length_nil, Nat.reduceAdd, Nat.reduceSub, Array.replicate_succ, Array.replicate_zero, List.push_toArray, List.append_toArray, List.nil_append, List.cons_append]
   gi_wp2_with (refine ⟨trivial, rfl, ?_⟩; (gi_at_call 76; refine (callsIn_wide.2 (block_pieces.calls _ _ _ _ _ _ _)).mono ?_; rintro e w' ⟨rfl, rfl⟩))
   obtain ⟨b, hb⟩ : ∃ b, w.heap.size = b := ⟨_, rfl⟩
   rw [hb]
   refine name_world fun W0 hW0 => ?_
   have hbw : wb.heap.size ≤ b := by rw [← hb]; exact hwb.size
   have hsz : W0.heap.size = b + 5 := by rw [hW0]; simp [hb]
   have hbe : Below w.heap.size w W0 := by rw [hW0]; exact below_alloc (below_alloc (below_alloc (below_alloc (below_alloc (Below.refl _ _) _) _) _) _) _
   have hX0 : Boxed W0 b 28 (.func (.func hf) #[] #[]) := by
    rw [hW0, ← hb]; exact ((((Boxed.new _ _ _).alloc _).alloc _).alloc _).alloc _
   have hX1 : Boxed W0 (b + 1) 62 (.slice none 0 0) := by
    rw [hW0, ← hb]; exact (((Boxed.new_at _ _ _ (by simp)).alloc _).alloc _).alloc _
   have hX2 : Boxed W0 (b + 2) 62 (.slice A0 l0.length c0) := by
    rw [hW0, ← hb]; exact ((Boxed.new_at _ _ _ (by simp)).alloc _).alloc _
   have hX3 : Boxed W0 (b + 3) 62 (.slice A1 l1.length c1) := by
    rw [hW0, ← hb]; exact (Boxed.new_at _ _ _ (by simp)).alloc _
   have hX4 : Boxed W0 (b + 4) 129 (.func (.func 83) #[] #[]) := by
    rw [hW0, ← hb]; exact Boxed.new_at _ _ _ (by simp)
   clear hW0
   have hit := block_pieces.iter w (b + 4) (b + 2) (b + 3) l0 l1 A0 A1 c0 c1 xs HZ.out W0 (by rw [hb]; omega) hr0 hc0 hr1 hc1 hbe hX4 hX2 hX3
   refine range_round (gf := 84) rfl (goes_in Try.func84 (by kernel_rfl) rfl) hit (Below.refl _ _) (fun _ => rfl) (fun k hk => by rw [hsz]; omega) (fun k hk => by rw [hsz]; omega)
    (fun i W => ∃ v, Boxed W (b + 1) 62 v ∧ Kd.R k99 99 W wb.heap.size (fun k => b + 7 ≤ k) v (combL h (xs.take i)) ∧ Boxed W b 28 (.func (.func hf) #[] #[]) ∧ Below w.heap.size w W)
    (fun _ _ _ => False) ?_ (fun _ _ _ _ h _ => h)
    ⟨_, hX1, Kd.R_nil _ _ _ _ _, hX0, hbe⟩ ?round ?done (fun _ _ _ _ h _ => h.elim)
   ·rw [hsz]
    rintro i A B ⟨v, hv, hR, he, hB⟩ hk
    refine ⟨v, hk.boxed hv (by omega), Kd.R_step hR (fun k hok hlt => hk.block k (by omega) hlt), hk.boxed he (by omega), hB.trans (hk.below hB.size (by intro k _; omega))⟩
   case round =>
    rintro i ⟨r, x, y⟩ W hx hlt ⟨v, hv, hR, he, hB⟩
    rw [hsz] at hlt
    rw [hsz]
    simp only [block_pieces.encs]
    gi_wp2
    refine ⟨((Keeps.refl _ _).alloc _).alloc _, fun Wb hk hl => ?_⟩
    obtain ⟨Bx, hBx⟩ : ∃ Bx, W.heap.size = Bx := ⟨_, rfl⟩
    rw [hBx]
    have hvb : Boxed Wb (b + 1) 62 v := hk.boxed ((hv.alloc _).alloc _) (by omega)
    have heb : Boxed Wb b 28 (.func (.func hf) #[] #[]) := hk.boxed ((he.alloc _).alloc _) (by omega)
    have hRb := Kd.R_step (Kd.R_alloc (Kd.R_alloc hR (.cells #[.int .i64 r.f0, .int .i64 r.f1] 55)) (.cells #[.int .i64 x, .int .i64 y] 122)) (fun k hok hlt => hk.block k (by omega) hlt)
    have hxb : Wb.heap[Bx]? = some (.cells #[.int .i64 r.f0, .int .i64 r.f1] 55 (0, 0)) := hk.heap (by rw [← hBx]; exact (Below.heap_alloc _ _ _ (by simp)).trans (blk_new _ _)) (by omega)
    have hyb : Wb.heap[Bx + 1]? = some (.cells #[.int .i64 x, .int .i64 y] 122 (0, 0)) := hk.heap (by have := blk_new (W.alloc (.cells #[.int .i64 r.f0, .int .i64 r.f1] 55)) (.cells #[.int .i64 x, .int .i64 y] 122 (0, 0)); rw [World.size_alloc, hBx] at this; exact this) (by omega)
    have hBb : Below w.heap.size w Wb := ((below_alloc (below_alloc hB _) _)).trans (hk.below (by simp; omega) (fun k hk' => by omega))
    have hi : i < xs.length := (List.getElem?_eq_some_iff.mp hx).1
    have hstep : combL h (xs.take (i + 1)) = stepC h (combL h (xs.take i)) (r, x, y) := by
     rw [List.take_add_one, hx]
     exact combL_snoc h _ _
    have hlen : (combL h (xs.take i)).length ≤ 1000 := by
     have := combL_len h (xs.take i)
     rw [List.length_take] at this
     omega
    rw [hBx] at hlt
    clear hR hv he hB hk hx
    generalize combL h (xs.take i) = out at hRb hstep hlen
    have cb : Wb.cell? ⟨b, 0, none⟩ = some (.func (.func hf) #[] #[]) := heb.cell
    have cv : Wb.cell? ⟨b + 1, 0, none⟩ = some v := hvb.cell
    have fv : Wb.frozen? ⟨b + 1, 0, none⟩ = false := hvb.frozen
    have x0 : Wb.cell? ⟨Bx, 0, none⟩ = some (.int .i64 r.f0) := blk_cell hxb 0
    have x1 : Wb.cell? ⟨Bx, 1, none⟩ = some (.int .i64 r.f1) := blk_cell hxb 1
    have y0 : Wb.cell? ⟨Bx + 1, 0, none⟩ = some (.int .i64 x) := blk_cell hyb 0
    have y1 : Wb.cell? ⟨Bx + 1, 1, none⟩ = some (.int .i64 y) := blk_cell hyb 1
    have HST := Aside0.mk hstep
    have HLEN := Aside0.mk hlen
    have HRB := Aside0.mk hRb
    clear hstep hlen hRb
    have egg := EG.out
    have hnb : b ≠ b + 5 + 1 := by omega
    by_cases h1 : h x y = -1
    ·have h1b : (h x y == -1) = true := beq_iff_eq.mpr h1
     have H1 := Aside0.mk h1
     clear h1
     gi_wp2_with (refine ⟨trivial, rfl, ?_⟩; (with_reducible refine (CallsIn.inRound _ (callsIn_wide.2 (HC.out _ _ _))).mono ?_); rintro e w2 ⟨rfl, m2, rfl⟩)
     refine ⟨(Keeps.refl _ _).drewN _, v, hvb.drawn ⟨_, rfl⟩, ?_, heb.drawn ⟨_, rfl⟩, pw_below_drewN hBb _⟩
     rw [HST.out, stepC_skip H1.out]
     exact Kd.R_drewN HRB.out _
    ·have h1b : (h x y == -1) = false := beq_eq_false_iff_ne.mpr h1
     have H1 := Aside0.mk h1
     clear h1
     have HNE : Aside0 (∀ k, k < b + 7 → some k ≠ v.ownBlock) := ⟨fun k hk e => by have := HRB.out.1 k e.symm; omega⟩
     obtain ⟨Av, cv0, rfl, hcv, hcC⟩ := Kd.R_reads HRB.out
     have HLL : Aside0 ((out.length + 1) * 24 ≤ 140737488355328) := ⟨by have := HLEN.out; omega⟩
     by_cases ho : out = []
     ·subst ho
      simp only [List.length_nil] at cv
      clear hcC
      gi_wp2_with (refine ⟨trivial, rfl, ?_⟩; (with_reducible refine (CallsIn.inRound _ (callsIn_wide.2 (HC.out _ _ _))).mono ?_); rintro e w2 ⟨rfl, m2, rfl⟩)
      refine wpIn_round_quiet (by kernel_rfl) (by kernel_rfl) (by kernel_rfl) ?_
      repeat (gi_big_quiet_step (fail))
      refine wpQuietIn_nil ?_
      rintro _ ⟨nq, rfl⟩
      gi_wp2_with (gi_at_builtin; refine R_append_in k99 wb.heap.size rfl _ _ 62 99 (.agg #[(.int .i64 0), (.int .i64 0), (.int .i64 0)]) 24 rfl Try.underlying62 info99 rfl (by decide) (by omega) (.slice Av 0 cv0) ([] : List S99) (⟨r, h x y⟩ : S99) [.int .i64 r.f0, .int .i64 r.f1, .int .i64 (h x y)] (fun k => b + 7 ≤ k) (fun _ => False) rfl rfl ?aP (fun _ hk => hk.elim) ?aF ?aO ?aS ?aL ?_; (case aP => exact k99_mkM _ _ _ (⟨r, h x y⟩ : S99)); (case aF => exact fun k hk => by have hk2 : Wb.heap.size ≤ k := hk; omega); (case aO => exact Kd.R_drewN HRB.out _); (case aS => exact Nat.le_trans hwb.size hBb.size); (case aL => exact HLL.out); intro v1 w1 ho hg hat; obtain ⟨Av1, cv1, rfl⟩ := Kd.R_slice ho; have hv1 : Boxed w1 (b + 1) 62 _ := (hg.block _ hvb.lt (HNE.out (b + 1) (by omega))).trans hvb; have hc1 := hv1.cell; have hf1 := hv1.frozen; have he1 : Boxed w1 b 28 _ := (hg.block _ heb.lt (HNE.out b (by omega))).trans heb; have HO := Aside0.mk ho; have HG := Aside0.mk hg; clear ho hg hat)
      have hkk : Keeps (fun k => k = b + 5 ∨ k = b + 5 + 1 ∨ k < w.heap.size ∨ k = b + 4 ∨ k = b + 2 ∨ k = b + 3) Wb w1 := ((Keeps.refl _ Wb).drewN _).trans (Keeps.of_grown HG.out (fun k e hz => HNE.out k (by omega) e.symm))
      refine ⟨hkk.setCell (p := ⟨b + 1, 0, none⟩) (fun h => by have h' : b + 1 = b + 5 ∨ b + 1 = b + 5 + 1 ∨ b + 1 < w.heap.size ∨ b + 1 = b + 4 ∨ b + 1 = b + 2 ∨ b + 1 = b + 3 := h; omega) _, _, hv1.put _, ?_, he1.other (by omega) _, (hBb.trans (hkk.below hBb.size (fun k hk => by omega))).setCell (p := ⟨b + 1, 0, none⟩) (by show w.heap.size ≤ b + 1; omega) _⟩
      rw [HST.out, stepC_nil H1.out]
      have hro := HO.out
      simp only [List.length_append, List.length_cons, List.length_nil] at hro ⊢
      exact Kd.R_far hro (p := ⟨b + 1, 0, none⟩) (fun k hk => by show k ≠ b + 1; omega) _
     ·obtain ⟨init, last, rfl⟩ := combL_last ho
      clear ho
      obtain ⟨m, hm⟩ : ∃ m, init.length = m := ⟨_, rfl⟩
      have hlm : (init ++ [last]).length = m + 1 := by simp [hm]
      have hrd : rd_T99 (init ++ [last]) (m : Int) = last := by simp [rd_T99, ← hm]
      have hrb := HRB.out
      rw [hlm] at hrb cv hcC
      obtain ⟨g, rfl⟩ : ∃ g, Av = some ⟨g, 0, none⟩ := by
       obtain ⟨g, cap, e, _⟩ := Kd.R_form hrb (by rw [hlm]; omega)
       injection e with e1
       exact ⟨g, e1⟩
      have hu := at_T99 hcC (m : Int) (by omega) (by omega)
      obtain ⟨ad, e, hu0, hu1, hu2⟩ := hu
      cases e
      rw [hrd, Int.toNat_natCast] at hu0 hu1 hu2
      simp only [add_plain] at hu0 hu1 hu2
      have HRB2 := Aside0.mk hrb
      have hm1 : m ≤ 1000 := by have := HLEN.out; omega
      have hw1 : IntKind.i64.wrap ((m : Int) + 1 - 1) = m := by rw [Int.add_sub_cancel]; exact IntWalk.i64_in _ (by omega)
      have HM := Aside0.mk hm
      clear hrb hcC hrd hm HRB
      have HLM := Aside0.mk hlm
      clear hlm
      by_cases h2 : last.f0.f1 = r.f0
      ·have h2b : (last.f0.f1 == r.f0) = true := beq_iff_eq.mpr h2
       have H2 := Aside0.mk h2
       clear h2
       by_cases h3 : last.f1 = h x y
       ·have h3b : (last.f1 == h x y) = true := beq_iff_eq.mpr h3
        have H3 := Aside0.mk h3
        clear h3
        have hg1 : Wb.frozen? ⟨g, m * 3 + 1, none⟩ = false := by
         obtain ⟨cells, hcs⟩ := Kd.R_typed HRB2.out g rfl
         exact blk_frozen hcs _
        gi_wp2_with (refine ⟨trivial, rfl, ?_⟩; (with_reducible refine (CallsIn.inRound _ (callsIn_wide.2 (HC.out _ _ _))).mono ?_); rintro e w2 ⟨rfl, m2, rfl⟩)
        refine wpIn_round_quiet (by kernel_rfl) (by kernel_rfl) (by kernel_rfl) ?_
        repeat (gi_big_quiet_step (fail))
        refine wpQuietIn_nil ?_
        rintro _ ⟨nq, rfl⟩
        gi_wp2
        have hgb : b + 7 ≤ g := HRB2.out.1 g rfl
        have hkk : Keeps (fun k => k = b + 5 ∨ k = b + 5 + 1 ∨ k < w.heap.size ∨ k = b + 4 ∨ k = b + 2 ∨ k = b + 3) Wb ((Wb.drewN (m2 + nq)).setCell ⟨g, m * 3 + 1, none⟩ (.int .i64 r.f1)) := ((Keeps.refl _ Wb).drewN _).setCell (p := ⟨g, m * 3 + 1, none⟩) (fun h => by have h' : g = b + 5 ∨ g = b + 5 + 1 ∨ g < w.heap.size ∨ g = b + 4 ∨ g = b + 2 ∨ g = b + 3 := h; omega) _
        refine ⟨hkk, _, hvb.away (p := ⟨g, m * 3 + 1, none⟩) (by show b + 1 ≠ g; omega) _, ?_, heb.away (p := ⟨g, m * 3 + 1, none⟩) (by show b ≠ g; omega) _, hBb.trans (hkk.below hBb.size (fun k hk => by omega))⟩
        rw [HST.out, stepC_ext H1.out ⟨H2.out, H3.out⟩]
        have hseg := Kd.R_seg (Kd.R_drewN HRB2.out (m2 + nq)) (m : Int) (by omega) (by omega) (c := [.int .i64 last.f0.f0, .int .i64 last.f0.f1, .int .i64 last.f1]) (seg := [.int .i64 r.f1]) (j := 1) rfl
         (fun j u hj => by
          rw [Int.toNat_natCast]
          rcases j with _ | _ | _ | j
          ·simp at hj; subst hj; exact hu0
          ·simp at hj; subst hj; exact hu1
          ·simp at hj; subst hj; exact hu2
          ·simp at hj) (by show 1 + 1 ≤ 3; decide) (x' := ⟨⟨last.f0.f0, r.f1⟩, last.f1⟩) (okp := fun _ => False) (k99_mkM _ _ _ _) (fun _ hk => hk.elim)
        have hres := hseg.1
        rw [Int.toNat_natCast] at hres
        rw [HM.out, HLM.out]
        exact hres
       ·have h3b : (last.f1 == h x y) = false := beq_eq_false_iff_ne.mpr h3
        have H3 := Aside0.mk h3
        clear h3
        gi_wp2_with (refine ⟨trivial, rfl, ?_⟩; (with_reducible refine (CallsIn.inRound _ (callsIn_wide.2 (HC.out _ _ _))).mono ?_); rintro e w2 ⟨rfl, m2, rfl⟩)
        refine wpIn_round_quiet (by kernel_rfl) (by kernel_rfl) (by kernel_rfl) ?_
        repeat (gi_big_quiet_step (fail))
        refine wpQuietIn_nil ?_
        rintro _ ⟨nq, rfl⟩
        gi_wp2_with (gi_at_builtin; refine R_append_in k99 wb.heap.size rfl _ _ 62 99 (.agg #[(.int .i64 0), (.int .i64 0), (.int .i64 0)]) 24 rfl Try.underlying62 info99 rfl (by decide) (by omega) (.slice (some ⟨g, 0, none⟩) (m + 1) cv0) (init ++ [last]) (⟨r, h x y⟩ : S99) [.int .i64 r.f0, .int .i64 r.f1, .int .i64 (h x y)] (fun k => b + 7 ≤ k) (fun _ => False) rfl rfl ?aP (fun _ hk => hk.elim) ?aF ?aO ?aS ?aL ?_; (case aP => exact k99_mkM _ _ _ (⟨r, h x y⟩ : S99)); (case aF => exact fun k hk => by have hk2 : Wb.heap.size ≤ k := hk; omega); (case aO => exact Kd.R_drewN HRB2.out _); (case aS => exact Nat.le_trans hwb.size hBb.size); (case aL => exact HLL.out); intro v1 w1 ho hg hat; obtain ⟨Av1, cv1, rfl⟩ := Kd.R_slice ho; have hv1 : Boxed w1 (b + 1) 62 _ := (hg.block _ hvb.lt (HNE.out (b + 1) (by omega))).trans hvb; have hc1 := hv1.cell; have hf1 := hv1.frozen; have he1 : Boxed w1 b 28 _ := (hg.block _ heb.lt (HNE.out b (by omega))).trans heb; have HO := Aside0.mk ho; have HG := Aside0.mk hg; clear ho hg hat)
        have hkk : Keeps (fun k => k = b + 5 ∨ k = b + 5 + 1 ∨ k < w.heap.size ∨ k = b + 4 ∨ k = b + 2 ∨ k = b + 3) Wb w1 := ((Keeps.refl _ Wb).drewN _).trans (Keeps.of_grown HG.out (fun k e hz => HNE.out k (by omega) e.symm))
        refine ⟨hkk.setCell (p := ⟨b + 1, 0, none⟩) (fun h => by have h' : b + 1 = b + 5 ∨ b + 1 = b + 5 + 1 ∨ b + 1 < w.heap.size ∨ b + 1 = b + 4 ∨ b + 1 = b + 2 ∨ b + 1 = b + 3 := h; omega) _, _, hv1.put _, ?_, he1.other (by omega) _, (hBb.trans (hkk.below hBb.size (fun k hk => by omega))).setCell (p := ⟨b + 1, 0, none⟩) (by show w.heap.size ≤ b + 1; omega) _⟩
        rw [HST.out, stepC_app H1.out (fun e => H3.out e.2)]
        have hro := HO.out
        simp only [List.length_append, List.length_cons, List.length_nil] at hro ⊢
        exact Kd.R_far hro (p := ⟨b + 1, 0, none⟩) (fun k hk => by show k ≠ b + 1; omega) _
      ·have h2b : (last.f0.f1 == r.f0) = false := beq_eq_false_iff_ne.mpr h2
       have H2 := Aside0.mk h2
       clear h2
       gi_wp2_with (refine ⟨trivial, rfl, ?_⟩; (with_reducible refine (CallsIn.inRound _ (callsIn_wide.2 (HC.out _ _ _))).mono ?_); rintro e w2 ⟨rfl, m2, rfl⟩)
       refine wpIn_round_quiet (by kernel_rfl) (by kernel_rfl) (by kernel_rfl) ?_
       repeat (gi_big_quiet_step (fail))
       refine wpQuietIn_nil ?_
       rintro _ ⟨nq, rfl⟩
       gi_wp2_with (gi_at_builtin; refine R_append_in k99 wb.heap.size rfl _ _ 62 99 (.agg #[(.int .i64 0), (.int .i64 0), (.int .i64 0)]) 24 rfl Try.underlying62 info99 rfl (by decide) (by omega) (.slice (some ⟨g, 0, none⟩) (m + 1) cv0) (init ++ [last]) (⟨r, h x y⟩ : S99) [.int .i64 r.f0, .int .i64 r.f1, .int .i64 (h x y)] (fun k => b + 7 ≤ k) (fun _ => False) rfl rfl ?aP (fun _ hk => hk.elim) ?aF ?aO ?aS ?aL ?_; (case aP => exact k99_mkM _ _ _ (⟨r, h x y⟩ : S99)); (case aF => exact fun k hk => by have hk2 : Wb.heap.size ≤ k := hk; omega); (case aO => exact Kd.R_drewN HRB2.out _); (case aS => exact Nat.le_trans hwb.size hBb.size); (case aL => exact HLL.out); intro v1 w1 ho hg hat; obtain ⟨Av1, cv1, rfl⟩ := Kd.R_slice ho; have hv1 : Boxed w1 (b + 1) 62 _ := (hg.block _ hvb.lt (HNE.out (b + 1) (by omega))).trans hvb; have hc1 := hv1.cell; have hf1 := hv1.frozen; have he1 : Boxed w1 b 28 _ := (hg.block _ heb.lt (HNE.out b (by omega))).trans heb; have HO := Aside0.mk ho; have HG := Aside0.mk hg; clear ho hg hat)
       have hkk : Keeps (fun k => k = b + 5 ∨ k = b + 5 + 1 ∨ k < w.heap.size ∨ k = b + 4 ∨ k = b + 2 ∨ k = b + 3) Wb w1 := ((Keeps.refl _ Wb).drewN _).trans (Keeps.of_grown HG.out (fun k e hz => HNE.out k (by omega) e.symm))
       refine ⟨hkk.setCell (p := ⟨b + 1, 0, none⟩) (fun h => by have h' : b + 1 = b + 5 ∨ b + 1 = b + 5 + 1 ∨ b + 1 < w.heap.size ∨ b + 1 = b + 4 ∨ b + 1 = b + 2 ∨ b + 1 = b + 3 := h; omega) _, _, hv1.put _, ?_, he1.other (by omega) _, (hBb.trans (hkk.below hBb.size (fun k hk => by omega))).setCell (p := ⟨b + 1, 0, none⟩) (by show w.heap.size ≤ b + 1; omega) _⟩
       rw [HST.out, stepC_app H1.out (fun e => H2.out e.1)]
       have hro := HO.out
       simp only [List.length_append, List.length_cons, List.length_nil] at hro ⊢
       exact Kd.R_far hro (p := ⟨b + 1, 0, none⟩) (fun k hk => by show k ≠ b + 1; omega) _
   case done =>
    rintro W ⟨v, hv, hR, he, hB⟩ hD
    rw [hsz] at hD ⊢
    rw [List.take_length] at hR
    obtain ⟨Av, cv0, rfl⟩ := Kd.R_slice hR
    have hcv := hv.cell
    have HR := Aside0.mk hR
    have HHH := HH.out
    clear hR
    generalize combL h xs = out at HR HHH hcv
    by_cases h40 : 40 < out.length
    ·rw [if_pos h40] at HHH
     simp only [Option.some.injEq, Prod.mk.injEq] at HHH
     obtain ⟨rfl, rfl⟩ := HHH
     have h41 : decide ((40 : Int) < (out.length : Int)) = true := decide_eq_true (by omega)
     clear h40
     gi_wp2
     have hK : Keeps (fun k => k ≠ b + 5) W (W.putObj (b + 5) (.deferred none)) := Keeps.putObj _ _ _ (fun h => h rfl)
     have hBw : Below wb.heap.size wb W := hwb.trans (hB.mono hwb.size)
     refine ⟨by simp, .inl ⟨_, _, rfl, run_takeDeferred (w := W) hD, ?_⟩⟩
     refine ⟨_, results_tmp2 rfl _ _ _, _, rfl, ?_, hBw.trans (hK.below hBw.size (fun k hk => by omega))⟩
     exact Kd.R_nil _ _ _ _ _
    ·rw [if_neg h40] at HHH
     simp only [Option.some.injEq, Prod.mk.injEq] at HHH
     obtain ⟨rfl, rfl⟩ := HHH
     have h41 : decide ((40 : Int) < (out.length : Int)) = false := decide_eq_false (by omega)
     clear h40
     gi_wp2
     have hK : Keeps (fun k => k ≠ b + 5) W (W.putObj (b + 5) (.deferred none)) := Keeps.putObj _ _ _ (fun h => h rfl)
     have hBw : Below wb.heap.size wb W := hwb.trans (hB.mono hwb.size)
     refine ⟨by simp, .inl ⟨_, _, rfl, run_takeDeferred (w := W) hD, ?_⟩⟩
     refine ⟨_, results_tmp2 rfl _ _ _, _, rfl, ?_, hBw.trans (hK.below hBw.size (fun k hk => by omega))⟩
     exact Kd.R_mono (Kd.R_step HR.out (fun k hk hlt => hK.block k (by omega) hlt)) (fun _ _ => trivial)
  ·rw [if_neg hle] at hh; cases hh
end Go.Proofs.Ytlhhcjlcaacfpaa.P
