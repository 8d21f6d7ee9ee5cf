-- PRINTED by print.py (a twelfth state) out of the translation. Not trusted: Lean checks it.
import Derived.Test.YtlhhcjlcaacfpaaPx0
namespace Go.Proofs.Ytlhhcjlcaacfpaa.P
open Go.RowKit Go.Proofs.YtlhhcjlcaacfpaaW.PrintWords Go.Proofs.YtlhhcjlcaacfpaaW.PrintLast Go.Proofs.YtlhhcjlcaacfpaaW.PrintMore Go.Proofs.YtlhhcjlcaacfpaaH Go.Proofs.YtlhhcjlcaacfpaaR Go.Proofs.YtlhhcjlcaacfpaaM
attribute [local go_sem] max2_int min2_int max_two min_two max_three min_three max_four min_four   -- for this text's walks alone
set_option linter.unusedVariables false
set_option linter.unusedSimpArgs false

/-! ### pieces: function 32 -/
def atF (p : Int) : List S99 → List S99 × Int × Int
 | [] => ([], -1, 100000000)
 | b :: l => if b.f0.f1 ≤ p then atF p l else if p < b.f0.f0 then (b :: l, -1, b.f0.f0) else (b :: l, b.f1, b.f0.f1)
def sliceLen : Value → Nat
 | .slice _ n _ => n
 | _ => 0
theorem block_pieces.c83 (wb : World) (A0 : Option Addr) (c0 : Nat) (l0 : List S99) (p : Int) (w : World) (hr0 : Kd.C k99 wb A0 l0.length l0) (hc0 : l0.length ≤ c0) (hwb : Below wb.heap.size wb w) :
  Calls Try.prog 83 #[.slice A0 l0.length c0, .int .i64 p] w fun e w' => ∃ A' c', e = .returned (.tuple #[.slice A' (atF p l0).1.length c', .int .i64 (atF p l0).2.1, .int .i64 (atF p l0).2.2]) ∧ (atF p l0).1.length ≤ c' ∧ Kd.C k99 wb A' (atF p l0).1.length (atF p l0).1 ∧ Drawn0 w w' := by
 have hm0 := Kd.C_max hr0
 have HR0 := Aside0.mk hr0
 clear hr0
 have HWB := Aside0.mk hwb
 clear hwb
 generalize hz : atF p l0 = z
 have HZ := Aside0.mk hz
 clear hz
 go_enter Try.func83, Try.ntmps83
 go_wp2
 go_loopw [0] (fun v wr => ∃ (A : Option Addr) (c : Nat) (l : List S99), v = .slice A l.length c ∧ l.length ≤ c ∧ Aside0 (Kd.C k99 wb A l.length l) ∧ Aside0 (atF p l = z) ∧ Drawn0 w wr) (fun v _ => sliceLen v)
 case atStart => exact ⟨A0, c0, l0, rfl, hc0, ⟨HR0.out⟩, ⟨HZ.out⟩, Drawn0.refl _⟩
 case round =>
  obtain ⟨A, c, l, rfl, hc, HR, HE, ⟨m, rfl⟩⟩ := hrel
  cases l with
  | nil =>
   have hz := HE.out
   simp only [atF] at hz
   subst hz
   go_wp2
   go_ret3
   exact ⟨none, ⟨0, rfl⟩, Kd.C_nil _ _, by repeat (first | exact Drawn0.refl _ | apply Drawn0.step)⟩
  | cons b l =>
   obtain ⟨ad, e, hu0, hu1, hu2⟩ := at_T99 (Kd.C_below HR.out HWB.out) 0 (by omega) (by simp only [List.length_cons]; omega)
   cases e
   have ea : ad.add (Int.toNat 0 * 3) = ad := by simp [Addr.add]
   rw [ea] at hu0 hu1 hu2
   have eb : rd_T99 (b :: l) 0 = b := rfl
   rw [eb] at hu0 hu1 hu2
   clear ea eb
   have hlen : (b :: l).length = l.length + 1 := rfl
   have HRR := Aside0.mk HR.out
   by_cases h1 : b.f0.f1 ≤ p
   ·have hz := HE.out
    simp only [atF, if_pos h1] at hz
    have HZ2 := Aside0.mk hz
    clear hz
    go_wp2
    go_roundw
    case rel =>
     have hd := Kd.C_drop (m := 1) (c := c) HRR.out (by simp) hc
     have e1 : (some ad).map (·.add (1 * (k99).sz)) = some ⟨ad.block, ad.off + 3, none⟩ := by simp [Addr.add, show (k99).sz = 3 from rfl]
     rw [e1] at hd
     exact ⟨_, c - 1, l, rfl, by simp only [List.length_cons] at hc; omega, ⟨hd⟩, HZ2, by repeat (first | exact Drawn0.refl _ | apply Drawn0.step)⟩
    case measure => simp [sliceLen]
   ·have hz := HE.out
    simp only [atF, if_neg h1] at hz
    by_cases h2 : p < b.f0.f0
    ·rw [if_pos h2] at hz
     subst hz
     go_wp2
     go_quiet (fail)
     go_wp2
     go_ret3
     exact ⟨some ad, c, rfl, hc, HRR.out, by repeat (first | exact Drawn0.refl _ | apply Drawn0.step)⟩
    ·rw [if_neg h2] at hz
     subst hz
     go_wp2
     go_quiet (fail)
     go_wp2
     go_ret3
     exact ⟨some ad, c, rfl, hc, HRR.out, by repeat (first | exact Drawn0.refl _ | apply Drawn0.step)⟩
def piecesE : Nat → List S99 → List S99 → Int → Option (List (S55 × Int × Int))
 | 0, _, _, _ => none
 | n + 1, a, b, p => if p ≤ 99999999 then
   (piecesE n (atF p a).1 (atF p b).1 (if (atF p b).2.2 < (atF p a).2.2 then (atF p b).2.2 else (atF p a).2.2)).bind fun z =>
    some ((⟨p, if (atF p b).2.2 < (atF p a).2.2 then (atF p b).2.2 else (atF p a).2.2⟩, (atF p a).2.1, (atF p b).2.1) :: z)
  else some []
def block_pieces.encs (x : S55 × Int × Int) : Array Value := #[.agg #[.int .i64 x.1.f0, .int .i64 x.1.f1], .agg #[.int .i64 x.2.1, .int .i64 x.2.2]]
def block_pieces.Rel (wb : World) (B1 B2 B3 : Nat) (xs : List (S55 × Int × Int)) (J : Nat → World → Prop) (d : Nat) (v : Value) (wr : World) : Prop :=
 ∃ (i : Nat) (p : Int) (a b : List S99) (A B : Option Addr) (cA cB : Nat), v = .int .i64 p ∧ Boxed wr B1 129 (.func (.func 83) #[] #[]) ∧ Boxed wr B2 62 (.slice A a.length cA) ∧ Boxed wr B3 62 (.slice B b.length cB) ∧ Kd.C k99 wb A a.length a ∧ a.length ≤ cA ∧ Kd.C k99 wb B b.length b ∧ b.length ≤ cB ∧ Below wb.heap.size wb wr ∧ J i wr ∧ i + d = xs.length + 1 ∧ piecesE d a b p = some (xs.drop i)
structure block_pieces.St (wb wr : World) (B1 B2 B3 Bp : Nat) (sa sb : Value) (x y : Int) (W : World) : Prop where
 b1 : Boxed W B1 129 (.func (.func 83) #[] #[])
 b2 : Boxed W B2 62 sa
 b3 : Boxed W B3 62 sb
 bp : W.heap[Bp]? = some (.cells #[.int .i64 x, .int .i64 y] 122 (0, 0))
 below : Below wb.heap.size wb W
 keep : Keeps (fun k => k ≠ B2 ∧ k ≠ B3 ∧ k ≠ Bp) wr W
section
variable {wb wr : World} {B1 B2 B3 Bp : Nat} {sa sb : Value} {x y : Int} {W W' : World} (h : block_pieces.St wb wr B1 B2 B3 Bp sa sb x y W)
include h
theorem block_pieces.St.drawn (hd : Drawn0 W W') : block_pieces.St wb wr B1 B2 B3 Bp sa sb x y W' :=
 ⟨h.b1.drawn hd, h.b2.drawn hd, h.b3.drawn hd, ((below_of_drawn hd).block _ (blk_lt h.bp)).trans h.bp, h.below.trans ((below_of_drawn hd).mono h.below.size), h.keep.drawn hd⟩
theorem block_pieces.St.p0 : W.cell? ⟨Bp, 0, none⟩ = some (.int .i64 x) := blk_cell h.bp 0
theorem block_pieces.St.p1 : W.cell? ⟨Bp, 1, none⟩ = some (.int .i64 y) := blk_cell h.bp 1
theorem block_pieces.St.q0 : W.frozen? ⟨Bp, 0, none⟩ = false := blk_frozen h.bp 0
theorem block_pieces.St.q1 : W.frozen? ⟨Bp, 1, none⟩ = false := blk_frozen h.bp 1
theorem block_pieces.St.a (h12 : B1 ≠ B2) (h23 : B2 ≠ B3) (hp : B1 ≠ Bp ∧ B2 ≠ Bp ∧ B3 ≠ Bp) (hb : wb.heap.size ≤ B2) (hb' : wb.heap.size ≤ Bp) (s : Value) (z : Int) :
  block_pieces.St wb wr B1 B2 B3 Bp s sb z y ((W.setCell ⟨B2, 0, none⟩ s).setCell ⟨Bp, 0, none⟩ (.int .i64 z)) := by
 refine ⟨(h.b1.other h12 _).other hp.1 _, (h.b2.put _).other hp.2.1 _, (h.b3.other (Ne.symm h23) _).other hp.2.2 _, ?_, (h.below.setCell (p := ⟨B2, 0, none⟩) hb _).setCell (p := ⟨Bp, 0, none⟩) hb' _, (h.keep.setCell (p := ⟨B2, 0, none⟩) (fun hk => hk.1 rfl) _).setCell (p := ⟨Bp, 0, none⟩) (fun hk => hk.2.2 rfl) _⟩
 have hB : (W.setCell ⟨B2, 0, none⟩ s).heap[Bp]? = some (.cells #[.int .i64 x, .int .i64 y] 122 (0, 0)) := (Below.heap_setCell W ⟨B2, 0, none⟩ s Bp (Ne.symm hp.2.1)).trans h.bp
 have := blk_set hB 0 (.int .i64 z)
 simpa using this
theorem block_pieces.St.b (h13 : B1 ≠ B3) (h23 : B2 ≠ B3) (hp : B1 ≠ Bp ∧ B2 ≠ Bp ∧ B3 ≠ Bp) (hb : wb.heap.size ≤ B3) (hb' : wb.heap.size ≤ Bp) (s : Value) (z : Int) :
  block_pieces.St wb wr B1 B2 B3 Bp sa s x z ((W.setCell ⟨B3, 0, none⟩ s).setCell ⟨Bp, 1, none⟩ (.int .i64 z)) := by
 refine ⟨(h.b1.other h13 _).away hp.1 _, (h.b2.other h23 _).away hp.2.1 _, (h.b3.put _).away hp.2.2 _, ?_, (h.below.setCell (p := ⟨B3, 0, none⟩) hb _).setCell (p := ⟨Bp, 1, none⟩) hb' _, (h.keep.setCell (p := ⟨B3, 0, none⟩) (fun hk => hk.2.1 rfl) _).setCell (p := ⟨Bp, 1, none⟩) (fun hk => hk.2.2 rfl) _⟩
 have hB : (W.setCell ⟨B3, 0, none⟩ s).heap[Bp]? = some (.cells #[.int .i64 x, .int .i64 y] 122 (0, 0)) := (Below.heap_setCell W ⟨B3, 0, none⟩ s Bp (Ne.symm hp.2.2)).trans h.bp
 have := blk_set hB 1 (.int .i64 z)
 simpa using this
end
theorem piecesE.split {n : Nat} {a b : List S99} {q : S55 × Int × Int} {p : Int} {l : List (S55 × Int × Int)} (h : ((piecesE n a b p).bind fun z => some (q :: z)) = some l) :
  ∃ z, piecesE n a b p = some z ∧ l = q :: z := by
 cases hz : piecesE n a b p with
 | none => rw [hz] at h; cases h
 | some z => rw [hz] at h; exact ⟨z, rfl, (Option.some.inj h).symm⟩
set_option maxHeartbeats 4000000 in
theorem block_pieces.iter (wb : World) (B1 B2 B3 : Nat) (a b : List S99) (A B : Option Addr) (cA cB : Nat) (xs : List (S55 × Int × Int)) (hxs : piecesE (xs.length + 1) a b 0 = some xs) (w0 : World)
  (hn : wb.heap.size ≤ B2 ∧ wb.heap.size ≤ B3 ∧ B1 ≠ B2 ∧ B1 ≠ B3 ∧ B2 ≠ B3)
  (hrA : Kd.C k99 wb A a.length a) (hcA : a.length ≤ cA) (hrB : Kd.C k99 wb B b.length b) (hcB : b.length ≤ cB) (hwb : Below wb.heap.size wb w0)
  (hb1 : Boxed w0 B1 129 (.func (.func 83) #[] #[])) (hb2 : Boxed w0 B2 62 (.slice A a.length cA)) (hb3 : Boxed w0 B3 62 (.slice B b.length cB)) :
  Iter Try.prog 84 #[.pointer (some ⟨B1, 0, none⟩), .pointer (some ⟨B2, 0, none⟩), .pointer (some ⟨B3, 0, none⟩)] block_pieces.encs (fun k => k = B2 ∨ k = B3) (fun k => k < wb.heap.size ∨ k = B1 ∨ k = B2 ∨ k = B3) xs w0 := by
 intro l J Jx W hW hJ hJx hY h0
 have hB1 : Boxed W B1 129 (.func (.func 83) #[] #[]) := (hW.block _ hb1.lt).trans hb1
 have hB2 : Boxed W B2 62 (.slice A a.length cA) := (hW.block _ hb2.lt).trans hb2
 have hB3 : Boxed W B3 62 (.slice B b.length cB) := (hW.block _ hb3.lt).trans hb3
 have hbe : Below wb.heap.size wb W := hwb.trans (hW.mono hwb.size)
 refine callsIn_of_wp Try.func84 rfl trivial ?_
 simp only [Try.ntmps84, List.size_toArray, List.length_cons, List.length_nil, Nat.reduceAdd, Nat.reduceSub, Array.replicate_succ, Array.replicate_zero, List.push_toArray, List.append_toArray, List.nil_append, List.cons_append]
 refine wpIn_wide.2 ?_
 go_wp2
 refine (wpIn_wide (n := 0)).1 ?_
 gi_loopw [5] (fun v wr => ∃ d, block_pieces.Rel wb B1 B2 B3 xs J d v wr) (fun v wr => least (fun d => block_pieces.Rel wb B1 B2 B3 xs J d v wr))
 case atStart => exact ⟨xs.length + 1, 0, 0, a, b, A, B, cA, cB, rfl, hB1, hB2, hB3, hrA, hcA, hrB, hcB, hbe, h0, by omega, by simpa using hxs⟩
 case round =>
  clear hB1 hB2 hB3 hbe h0 hxs hb1 hb2 hb3 hrA hcA hrB hcB
  obtain ⟨d, ⟨i, p, a, b, A, B, cA, cB, rfl, hB1, hB2, hB3, hrA, hcA, hrB, hcB, hbe, hj, hid, hrest⟩, hmin⟩ := least_of hrel
  clear hrel
  have HMIN := Aside0.mk hmin
  clear hmin
  obtain ⟨hn1, hn2, hn3, hn4, hn5⟩ := hn
  have hn3' := hn3.symm
  have hn4' := hn4.symm
  have hn5' := hn5.symm
  have hC1 := hB1.cell
  have hC2 := hB2.cell
  have hC3 := hB3.cell
  have hF2 := hB2.frozen
  have hF3 := hB3.frozen
  have hD1 : ∀ o, (wr.alloc o).cell? ⟨B1, 0, none⟩ = some (.func (.func 83) #[] #[]) := fun o => pw_cell_below (below_alloc (Below.refl _ _) o) hC1
  have hD2 : ∀ o, (wr.alloc o).cell? ⟨B2, 0, none⟩ = some (.slice A a.length cA) := fun o => pw_cell_below (below_alloc (Below.refl _ _) o) hC2
  have hD3 : ∀ o, (wr.alloc o).cell? ⟨B3, 0, none⟩ = some (.slice B b.length cB) := fun o => pw_cell_below (below_alloc (Below.refl _ _) o) hC3
  have hl2 := hB2.lt
  have hl3 := hB3.lt
  have hne2 : wr.heap.size ≠ B2 := by omega
  have hne3 : wr.heap.size ≠ B3 := by omega
  have hl1 := hB1.lt
  have hne1 : wr.heap.size ≠ B1 := by omega
  have hsz := hbe.size
  cases d with
  | zero => simp [piecesE] at hrest
  | succ d =>
   unfold piecesE at hrest
   by_cases hp : p ≤ 99999999
   ·rw [if_pos hp] at hrest
    have hcl := fun W1 (hw1 : Below wb.heap.size wb W1) => block_pieces.c83 wb A cA a p W1 hrA hcA hw1
    have hcl2 := fun W1 (hw1 : Below wb.heap.size wb W1) => block_pieces.c83 wb B cB b p W1 hrB hcB hw1
    generalize atF p a = za at hrest hcl
    generalize atF p b = zb at hrest hcl2
    obtain ⟨a2, x, t1⟩ := za
    obtain ⟨b2, y, t2⟩ := zb
    simp only at hrest hcl hcl2
    obtain ⟨tt, htt⟩ : ∃ tt, (if t2 < t1 then t2 else t1) = tt := ⟨_, rfl⟩
    rw [htt] at hrest
    obtain ⟨z, hz, hd⟩ := piecesE.split hrest
    clear hrest
    have hi : i < xs.length := by
     rcases Nat.lt_or_ge i xs.length with h | h
     ·exact h
     ·rw [List.drop_eq_nil_of_le h] at hd; cases hd
    have hx : xs[i]? = some (⟨p, tt⟩, x, y) := by
     rw [← List.head?_drop, hd]; rfl
    have hz2 : piecesE d a2 b2 tt = some (xs.drop (i + 1)) := by
     rw [hz, ← List.tail_drop, hd]; rfl
    have HR := Aside0.mk hz2
    have HX := Aside0.mk hx
    clear hz hd hx hz2
    have HL1 := Aside0.mk hcl
    have HL2 := Aside0.mk hcl2
    clear hcl hcl2
    have hS0 : block_pieces.St wb wr B1 B2 B3 wr.heap.size (.slice A a.length cA) (.slice B b.length cB) 0 0 (wr.alloc (.cells #[.int .i64 0, .int .i64 0] 122)) :=
     ⟨hB1.alloc _, hB2.alloc _, hB3.alloc _, blk_new _ _, below_alloc hbe _, (Keeps.refl _ _).alloc _⟩
    have hnp : B1 ≠ wr.heap.size ∧ B2 ≠ wr.heap.size ∧ B3 ≠ wr.heap.size := by omega
    obtain ⟨Bp, hBp⟩ : ∃ Bp, wr.heap.size = Bp := ⟨_, rfl⟩
    rw [hBp] at hS0 hnp
    have hbp : wb.heap.size ≤ Bp := by omega
    have HS0 := Aside0.mk hS0
    have HJ0 := Aside0.mk hj
    have HJK := Aside0.mk hJ
    have HYY := Aside0.mk hY
    clear hS0 hbe hj hJ hJx hY
    refine wpIn_wide.2 ?_
    go_upto_region 7 with (first
     | (go_at_call 83; with_reducible refine (HL1.out _ HS0.out.below).mono ?_; rintro e w2 ⟨A2, c2, rfl, hc2, hr2, hd2⟩; have HS2 := Aside0.mk (HS0.out.drawn hd2); have c21 := HS2.out.b1.cell; have c22 := HS2.out.b2.cell; have c23 := HS2.out.b3.cell; have f22 := HS2.out.b2.frozen; have f23 := HS2.out.b3.frozen; have p20 := HS2.out.p0; have p21 := HS2.out.p1; have q20 := HS2.out.q0; have q21 := HS2.out.q1)
     | (go_at_call 83; with_reducible refine (HL2.out _ (HS2.out.a hn3 hn5 hnp hn1 hbp _ _).below).mono ?_; rintro e w3 ⟨A3, c3, rfl, hc3, hr3, hd3⟩; have HS3 := Aside0.mk ((HS2.out.a hn3 hn5 hnp hn1 hbp _ _).drawn hd3); have c31 := HS3.out.b1.cell; have c32 := HS3.out.b2.cell; have c33 := HS3.out.b3.cell; have f32 := HS3.out.b2.frozen; have f33 := HS3.out.b3.frozen; have p30 := HS3.out.p0; have p31 := HS3.out.p1; have q30 := HS3.out.q0; have q31 := HS3.out.q1))
    obtain ⟨w4, hw4⟩ : ∃ w4, (w3.setCell ⟨B3, 0, none⟩ (Value.slice A3 b2.length c3)).setCell ⟨Bp, 1, none⟩ (Value.int IntKind.i64 y) = w4 := ⟨_, rfl⟩
    rw [hw4]
    have hS4 := HS3.out.b hn4 hn5 hnp hn2 hbp (Value.slice A3 b2.length c3) y
    rw [hw4] at hS4
    have hJ4 : J i w4 := HJK.out _ _ _ HJ0.out (hS4.keep.weaken fun k hk hl => ⟨fun e => hk (.inl e), fun e => hk (.inr e), by omega⟩)
    obtain ⟨fn, tmps, assign, body, hy, hR⟩ := HYY.out i (⟨p, tt⟩, x, y) w4 HX.out hJ4
    have HRR := Aside0.mk hR
    clear hR hw4 hJ4
    simp only [block_pieces.encs] at hy
    have p40 := hS4.p0
    have p41 := hS4.p1
    have HS4 := Aside0.mk hS4
    clear hS4
    refine (wpIn_wide (n := 0)).1 ?_
    gi_wp2
    refine ⟨rfl, HRR.out.mono ?_⟩
    rintro e W3 (⟨rfl, hj3, hk3⟩ | ⟨rfl, hx3⟩)
    ·have hG1 := hk3.boxed HS4.out.b1 (.inr (.inl rfl))
     have hG2 := hk3.boxed HS4.out.b2 (.inr (.inr (.inl rfl)))
     have hG3 := hk3.boxed HS4.out.b3 (.inr (.inr (.inr rfl)))
     have hbe3 : Below wb.heap.size wb W3 := HS4.out.below.trans (hk3.below HS4.out.below.size (fun k hk => .inl hk))
     have HG := Aside0.mk (⟨i + 1, tt, a2, b2, A2, A3, c2, c3, rfl, hG1, hG2, hG3, hr2, hc2, hr3, hc3, hbe3, hj3, by omega, HR.out⟩ : block_pieces.Rel wb B1 B2 B3 xs J d (.int .i64 tt) W3)
     clear hj3 hk3 hG1 hG2 hG3 hbe3
     gi_wp2
     go_wp2
     go_roundw
     case rel => exact ⟨d, HG.out⟩
     case measure => have := least_le (R := fun d => block_pieces.Rel wb B1 B2 B3 xs J d (.int .i64 tt) W3) HG.out; have := HMIN.out; omega
    ·gi_wp2
     go_wp2
     refine bodyPost_ret (results_none rfl _ _ _) rfl ?_
     exact ⟨⟨_, rfl⟩, .inr ⟨i, hi, hx3⟩⟩
   ·rw [if_neg hp] at hrest
    have hlen : i = xs.length := by
     have := congrArg List.length (Option.some.inj hrest)
     simp at this
     omega
    subst hlen
    have HJ0 := Aside0.mk hj
    clear hj hJ hJx hY hrest hbe
    gi_wp2
    go_end0
    exact ⟨⟨_, rfl⟩, .inl HJ0.out⟩
end Go.Proofs.Ytlhhcjlcaacfpaa.P
