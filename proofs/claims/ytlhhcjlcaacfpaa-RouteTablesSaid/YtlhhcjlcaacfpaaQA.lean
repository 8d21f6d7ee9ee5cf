/- The plain law of RouteTables. -/
import Derived.Test.YtlhhcjlcaacfpaaPx0
import Derived.Test.YtlhhcjlcaacfpaaPx10
import Derived.Test.YtlhhcjlcaacfpaaQB
import Derived.Test.YtlhhcjlcaacfpaaPx33
import Derived.Test.YtlhhcjlcaacfpaaPx4
import Derived.Test.YtlhhcjlcaacfpaaPx6
import Derived.Test.YtlhhcjlcaacfpaaPx18
import Derived.Test.YtlhhcjlcaacfpaaPx31
import Derived.Test.YtlhhcjlcaacfpaaPx32
import Derived.Test.YtlhhcjlcaacfpaaPx5
import Derived.Test.YtlhhcjlcaacfpaaPx14
import Derived.Test.YtlhhcjlcaacfpaaPx19
import Derived.Test.YtlhhcjlcaacfpaaPx20
import Derived.Test.YtlhhcjlcaacfpaaPx21
import Derived.Test.YtlhhcjlcaacfpaaPx22
import Derived.Test.YtlhhcjlcaacfpaaPx23
import Derived.Test.YtlhhcjlcaacfpaaPx30
import Derived.Test.YtlhhcjlcaacfpaaQD
import Derived.Test.YtlhhcjlcaacfpaaPx24
import Derived.Test.YtlhhcjlcaacfpaaQE
import Derived.Test.YtlhhcjlcaacfpaaPx27
import Derived.Test.YtlhhcjlcaacfpaaPx28
import Derived.Test.YtlhhcjlcaacfpaaM
import Derived.Test.YtlhhcjlcaacfpaaPx34
set_option linter.unusedVariables false
theorem Go.Proofs.Ytlhhcjlcaacfpaa.ob {α β : Type} (a : α) (f : α → Option β) : (some a).bind f = f a := rfl
namespace Go.Proofs.Ytlhhcjlcaacfpaa.T24
open Go.RowKit Go.Proofs.Ytlhhcjlcaacfpaa.P Go.Proofs.YtlhhcjlcaacfpaaW.PrintWords Go.Proofs.YtlhhcjlcaacfpaaW.PrintLast Go.Proofs.YtlhhcjlcaacfpaaW.PrintMore
abbrev HP := S39
def rdH (l : List HP) (i : Nat) : HP := rd_T39 l i
theorem mx_le (a b : Int) : a ≤ mx a b ∧ b ≤ mx a b ∧ (mx a b = a ∨ mx a b = b) := by unfold mx; split <;> omega
theorem ev_const {α : Type} {a : Option α} {r : α} (h : a = some r) : Ev (fun _ => a) r := ⟨0, fun _ _ => h⟩
structure VK (h k : List Int) (lag : Int) : Prop where
 len1 : 1 ≤ h.length
 len2 : h.length ≤ 30
 hold : ∀ i : Int, 0 ≤ i → i < h.length → -1 ≤ rd h i ∧ rd h i ≤ 7
 klen : k.length = 8
 lag0 : 0 ≤ lag
 lag1 : lag ≤ 10
 known : ∀ c : Int, 0 ≤ c → c < 8 → rd k c = -1 ∨ (0 ≤ rd k c ∧ (h.length : Int) - 1 - lag ≤ rd k c ∧ rd k c < h.length ∧ ∀ u : Int, 1 ≤ u → u < h.length → rd h u ≠ rd h (u - 1) → (rd h u = c ∨ rd h (u - 1) = c) → u ≤ rd k c)
theorem leastOK_iff (h : List Int) (c v : Int) : leastOK h c v = true ↔ ∀ u : Int, 1 ≤ u → u < h.length → rd h u ≠ rd h (u - 1) → (rd h u = c ∨ rd h (u - 1) = c) → u ≤ v := by
 unfold leastOK
 rw [List.all_eq_true]
 constructor
 ·intro H u h1 h2 hne hor
  have := H u.toNat (List.mem_range.mpr (by omega))
  rw [show ((u.toNat : Nat) : Int) = u by omega] at this
  simp only [Bool.or_eq_true, decide_eq_true_eq, beq_iff_eq, Bool.not_eq_true', Bool.or_eq_false_iff, beq_eq_false_iff_ne] at this
  rcases this with ((h3 | h3) | h3) | h3
  ·omega
  ·exact absurd h3 hne
  ·rcases hor with ho | ho
   ·exact absurd ho h3.1
   ·exact absurd ho h3.2
  ·exact h3
 ·intro H u hu
  rw [List.mem_range] at hu
  simp only [Bool.or_eq_true, decide_eq_true_eq, beq_iff_eq, Bool.not_eq_true', Bool.or_eq_false_iff, beq_eq_false_iff_ne]
  by_cases h0 : u = 0
  ·exact .inl (.inl (.inl h0))
  ·by_cases h1 : rd h u = rd h ((u : Int) - 1)
   ·exact .inl (.inl (.inr h1))
   ·by_cases h2 : rd h u = c ∨ rd h ((u : Int) - 1) = c
    ·exact .inr (H u (by omega) (by omega) h1 h2)
    ·exact .inl (.inr ⟨fun h3 => h2 (.inl h3), fun h3 => h2 (.inr h3)⟩)
theorem valid_iff (h k : List Int) (lag : Int) : validB h k lag = true ↔ VK h k lag := by
 constructor
 ·intro H
  simp only [validB, Bool.and_eq_true, List.all_eq_true, decide_eq_true_eq, List.mem_range] at H
  obtain ⟨⟨⟨h1, h2⟩, h3⟩, h4⟩ := H
  have hh : 1 ≤ h.length ∧ h.length ≤ 30 := by simp [holdersB, inB] at h1; omega
  simp only [inB, Bool.and_eq_true, decide_eq_true_eq] at h3
  refine ⟨hh.1, hh.2, fun i a b => holdersB.at h1 i a b, h2, h3.1, h3.2, fun c c0 c8 => ?_⟩
  have := h4 c.toNat (by omega)
  simp only [okKnown, Bool.or_eq_true, beq_iff_eq, Bool.and_eq_true, decide_eq_true_eq] at this
  rw [show ((c.toNat : Nat) : Int) = c by omega] at this
  rcases this with h5 | ⟨⟨⟨h5, h6⟩, h7⟩, h8⟩
  ·exact .inl h5
  ·exact .inr ⟨h5, h6, h8, (leastOK_iff _ _ _).mp h7⟩
 ·intro H
  simp only [validB, Bool.and_eq_true, List.all_eq_true, decide_eq_true_eq, List.mem_range]
  refine ⟨⟨⟨?_, H.klen⟩, ?_⟩, fun c hc => ?_⟩
  ·simp only [holdersB, inB, Bool.and_eq_true, List.all_eq_true, decide_eq_true_eq]
   refine ⟨⟨by have := H.len1; omega, by have := H.len2; omega⟩, fun x hx => ?_⟩
   obtain ⟨i, hi, rfl⟩ := List.getElem_of_mem hx
   have := H.hold i (by omega) (by omega)
   simpa [rd, hi] using this
  ·simp only [inB, Bool.and_eq_true, decide_eq_true_eq]; exact ⟨H.lag0, H.lag1⟩
  ·simp only [okKnown, Bool.or_eq_true, beq_iff_eq, Bool.and_eq_true, decide_eq_true_eq]
   rcases H.known c (by omega) (by omega) with h5 | ⟨h5, h6, h7, h8⟩
   ·exact .inl h5
   ·exact .inr ⟨⟨⟨h5, h6⟩, (leastOK_iff _ _ _).mpr h8⟩, h7⟩
def EndAt (h k : List Int) (z : HP) (e : Int) : Prop :=
 (e = 1 ∧ rd h z.f1 = z.f0) ∨ (e = 2 ∧ rd h z.f1 = -1 ∧ rd h z.f1 ≠ z.f0) ∨ (e = 3 ∧ 0 ≤ rd h z.f1 ∧ rd h z.f1 ≠ z.f0 ∧ rd k (rd h z.f1) = -1)
structure Path (h k : List Int) (c u : Int) (l : List HP) (e : Int) : Prop where
 ne : 0 < l.length
 first : rdH l 0 = ⟨c, mx (rd k c) u⟩
 next : ∀ i : Nat, i + 1 < l.length → rd h (rdH l i).f1 ≠ (rdH l i).f0 ∧ 0 ≤ rd h (rdH l i).f1 ∧ 0 ≤ rd k (rd h (rdH l i).f1) ∧
  rdH l (i + 1) = ⟨rd h (rdH l i).f1, mx (rd k (rd h (rdH l i).f1)) (rdH l i).f1⟩
 last : EndAt h k (rdH l (l.length - 1)) e
theorem rdH_cons_succ (x : HP) (l : List HP) (i : Nat) : rdH (x :: l) (i + 1) = rdH l i := by
 unfold rdH rd_T39
 simp only [Int.toNat_natCast, List.getD_cons_succ]
theorem rdH_cons_zero (x : HP) (l : List HP) : rdH (x :: l) 0 = x := by simp [rdH, rd_T39]
theorem decide_tells {h k : List Int} {lag : Int} (H : VK h k lag) (c u : Int) (c0 : 0 ≤ c) (c8 : c < 8) (hk : 0 ≤ rd k c) (u0 : -1 ≤ u) (u1 : u < h.length) :
  0 ≤ mx (rd k c) u ∧ mx (rd k c) u < h.length ∧
  ((∃ e : Int, e ≠ 0 ∧ route_decide.f h k c u = some (mx (rd k c) u, -1, e) ∧ EndAt h k ⟨c, mx (rd k c) u⟩ e) ∨
  (route_decide.f h k c u = some (mx (rd k c) u, rd h (mx (rd k c) u), 0) ∧ rd h (mx (rd k c) u) ≠ c ∧ 0 ≤ rd h (mx (rd k c) u) ∧ rd h (mx (rd k c) u) < 8 ∧ 0 ≤ rd k (rd h (mx (rd k c) u)))) := by
 have hkn := H.known c c0 c8
 have hm := mx_le (rd k c) u
 have hw0 : 0 ≤ mx (rd k c) u := by omega
 have hw1 : mx (rd k c) u < h.length := by rcases hm.2.2 with e | e <;> rw [e] <;> omega
 refine ⟨hw0, hw1, ?_⟩
 have hl := H.klen
 have hold := H.hold (mx (rd k c) u) hw0 hw1
 generalize hw : mx (rd k c) u = w at *
 unfold route_decide.f
 rw [hw, if_pos c0, if_pos (by omega), if_pos hw0, if_pos hw1]
 by_cases h1 : rd h w = c
 ·rw [if_pos h1]; exact .inl ⟨1, by decide, rfl, .inl ⟨rfl, h1⟩⟩
 ·rw [if_neg h1]
  by_cases h2 : rd h w < 0
  ·rw [if_pos h2]; exact .inl ⟨2, by decide, rfl, .inr (.inl ⟨rfl, by show rd h w = -1; omega, h1⟩)⟩
  ·rw [if_neg h2, if_pos (by omega), if_pos (by omega)]
   have hkn2 := H.known (rd h w) (by omega) (by omega)
   by_cases h3 : rd k (rd h w) < 0
   ·rw [if_pos h3]; exact .inl ⟨3, by decide, rfl, .inr (.inr ⟨rfl, by show 0 ≤ rd h w; omega, h1, by show rd k (rd h w) = -1; omega⟩)⟩
   ·rw [if_neg h3]; exact .inr ⟨rfl, h1, by omega, by omega, by omega⟩
theorem path_tells {h k : List Int} {lag : Int} (H : VK h k lag) : ∀ (m : Nat) (c u : Int), 0 ≤ c → c < 8 → 0 ≤ rd k c → -1 ≤ u → u < h.length → (u = -1 ∨ 0 ≤ u) →
  (2 * ((h.length : Int) - u) + (if rd h u = c ∧ 0 ≤ u then 0 else 1)).toNat ≤ m → ∃ xs, hopsE (m + 1) h k c u = some xs ∧ Path h k c u (xs.map Prod.fst) (lastEnd xs) := by
 intro m
 induction m with
 | zero =>
  intro c u c0 c8 hk u0 u1 _ hm
  exfalso
  split at hm <;> omega
 | succ m ih =>
  intro c u c0 c8 hk u0 u1 uu hm
  obtain ⟨w0, w1, ht⟩ := decide_tells H c u c0 c8 hk u0 u1
  have hmx := mx_le (rd k c) u
  generalize hw : mx (rd k c) u = w at *
  rcases ht with ⟨e, he, hd, hend⟩ | ⟨hd, hne, hn0, hn8, hkn⟩
  ·refine ⟨[(⟨c, w⟩, e)], ?_, by simp, ?_, ?_, ?_⟩
   ·unfold hopsE
    rw [hd]
    simp only [ob]
    rw [if_neg he]
   ·simp [rdH_cons_zero, hw]
   ·intro i hi; simp at hi
   ·simpa [rdH_cons_zero, lastEnd] using hend
  ·obtain ⟨xs, hxs, hp⟩ := ih (rd h w) w hn0 hn8 hkn (by omega) w1 (.inr w0) (by
    rw [if_pos ⟨rfl, w0⟩]
    by_cases hwu : w = u
    ·subst hwu
     rw [if_neg (fun hx => hne hx.1)] at hm
     omega
    ·split at hm <;> omega)
   refine ⟨(⟨c, w⟩, 0) :: xs, ?_, by simp, ?_, ?_, ?_⟩
   ·rw [hopsE, hd]
    simp only [ob, if_true]
    rw [hxs]
    rfl
   ·simp [rdH_cons_zero, hw]
   ·intro i hi
    simp only [List.map_cons, List.length_cons] at hi ⊢
    cases i with
    | zero =>
     rw [rdH_cons_zero, rdH_cons_succ]
     exact ⟨hne, hn0, hkn, hp.first⟩
    | succ i =>
     rw [rdH_cons_succ, rdH_cons_succ]
     exact hp.next i (by omega)
   ·have hpl := hp.ne
    have hle : lastEnd ((⟨c, w⟩, 0) :: xs) = lastEnd xs := by
     cases xs with
     | nil => simp at hpl
     | cons y ys => simp [lastEnd]
    rw [hle]
    simp only [List.map_cons, List.length_cons]
    have : (xs.map Prod.fst).length = (xs.map Prod.fst).length - 1 + 1 := by omega
    rw [Nat.add_sub_cancel, this, rdH_cons_succ]
    exact hp.last
theorem Path.all {h k : List Int} {lag c e : Int} {l : List HP} (H : VK h k lag) (c0 : 0 ≤ c) (c8 : c < 8) (hk : 0 ≤ rd k c) (P : Path h k c (-1) l e) :
  ∀ i : Nat, i < l.length → 0 ≤ (rdH l i).f0 ∧ (rdH l i).f0 < 8 ∧ 0 ≤ rd k (rdH l i).f0 ∧ rd k (rdH l i).f0 ≤ (rdH l i).f1 ∧ 0 ≤ (rdH l i).f1 ∧ (rdH l i).f1 < h.length ∧ (h.length : Int) - 1 - lag ≤ (rdH l i).f1 := by
 intro i
 induction i with
 | zero =>
  intro _
  rw [P.first]
  have hkn := H.known c c0 c8
  have hm := mx_le (rd k c) (-1)
  refine ⟨c0, c8, hk, hm.1, by simp only; omega, by simp only; rcases hm.2.2 with e | e <;> rw [e] <;> omega, by simp only; omega⟩
 | succ i ih =>
  intro hi
  obtain ⟨a0, a1, a2, a3, a4, a5, a6⟩ := ih (by omega)
  obtain ⟨n1, n2, n3, n4⟩ := P.next i hi
  rw [n4]
  have hh := H.hold _ a4 a5
  have hkn := H.known (rd h (rdH l i).f1) n2 (by omega)
  have hm := mx_le (rd k (rd h (rdH l i).f1)) (rdH l i).f1
  refine ⟨n2, by simp only; omega, n3, hm.1, by simp only; omega, by simp only; rcases hm.2.2 with e | e <;> rw [e] <;> omega, by simp only; omega⟩
theorem Path.ascend {h k : List Int} {c e : Int} {l : List HP} (P : Path h k c (-1) l e) (i : Nat) (hi : i + 1 < l.length) :
  (rdH l i).f1 ≤ (rdH l (i + 1)).f1 ∧ (i + 2 < l.length → (rdH l i).f1 < (rdH l (i + 1)).f1) := by
 obtain ⟨n1, n2, n3, n4⟩ := P.next i hi
 have hm := mx_le (rd k (rd h (rdH l i).f1)) (rdH l i).f1
 have e0 : (rdH l (i + 1)).f0 = rd h (rdH l i).f1 := by rw [n4]
 have e1 : (rdH l (i + 1)).f1 = mx (rd k (rd h (rdH l i).f1)) (rdH l i).f1 := by rw [n4]
 refine ⟨by rw [e1]; exact hm.2.1, fun h2 => ?_⟩
 obtain ⟨m1, _⟩ := P.next (i + 1) h2
 rw [e0] at m1
 rcases Int.lt_or_eq_of_le (show (rdH l i).f1 ≤ (rdH l (i + 1)).f1 by rw [e1]; exact hm.2.1) with hlt | heq
 ·exact hlt
 ·rw [← heq] at m1
  exact absurd rfl m1
theorem Path.mono {h k : List Int} {c e : Int} {l : List HP} (P : Path h k c (-1) l e) (i : Nat) : ∀ d : Nat, i + d < l.length → (rdH l i).f1 ≤ (rdH l (i + d)).f1 := by
 intro d
 induction d with
 | zero => intro _; exact Int.le_refl _
 | succ d ih =>
  intro hd
  have := ih (by omega)
  have h2 := (P.ascend (i + d) (by omega)).1
  rw [show i + (d + 1) = i + d + 1 by omega]
  omega
theorem Path.low {h k : List Int} {lag c e : Int} {l : List HP} (H : VK h k lag) (c0 : 0 ≤ c) (c8 : c < 8) (hk : 0 ≤ rd k c) (P : Path h k c (-1) l e) :
  ∀ i : Nat, i + 1 < l.length → (h.length : Int) - 1 - lag + i ≤ (rdH l i).f1 := by
 intro i
 induction i with
 | zero => intro hi; have := (P.all H c0 c8 hk 0 (by omega)).2.2.2.2.2.2; omega
 | succ i ih =>
  intro hi
  have h1 := ih (by omega)
  have h2 := (P.ascend i (by omega)).2 hi
  omega
theorem Path.short {h k : List Int} {lag c e : Int} {l : List HP} (H : VK h k lag) (c0 : 0 ≤ c) (c8 : c < 8) (hk : 0 ≤ rd k c) (P : Path h k c (-1) l e) : (l.length : Int) ≤ lag + 2 := by
 have hl0 := H.lag0
 by_cases hl : l.length ≤ 1
 ·omega
 ·have h1 := P.low H c0 c8 hk (l.length - 2) (by omega)
  have h2 := (P.all H c0 c8 hk (l.length - 2) (by omega)).2.2.2.2.2.1
  omega
end Go.Proofs.Ytlhhcjlcaacfpaa.T24
namespace Go.Proofs.Ytlhhcjlcaacfpaa.T24
open Go.RowKit Go.Proofs.Ytlhhcjlcaacfpaa.P Go.Proofs.YtlhhcjlcaacfpaaW.PrintWords Go.Proofs.YtlhhcjlcaacfpaaW.PrintLast Go.Proofs.YtlhhcjlcaacfpaaW.PrintMore
def I64 (x : Int) : Prop := -9223372036854775808 ≤ x ∧ x ≤ 9223372036854775807
theorem i64_of {x : Int} (h : (Lit.int .i64 x).wf = true) : I64 x := by
 simp only [Lit.wf, IntKind.min, IntKind.max, IntKind.signed, IntKind.bits, Bool.and_eq_true, decide_eq_true_eq, if_true] at h
 unfold I64
 omega
theorem w64 {x : Int} (h : I64 x) : wrap64 x = x := by unfold wrap64; unfold I64 at h; omega
theorem tmod_tells {a n : Int} (ha : 0 ≤ a) (hn : 0 < n) : 0 ≤ Int.tmod a n ∧ Int.tmod a n < n := by
 rw [Int.tmod_eq_emod_of_nonneg ha]
 exact ⟨Int.emod_nonneg _ (by omega), Int.emod_lt_of_pos _ hn⟩
theorem tdiv_i64 {m : Int} (h : I64 m) : I64 (Int.tdiv m 16) := by
 unfold I64 at *
 rcases Int.le_total 0 m with h0 | h0
 ·rw [Int.tdiv_eq_ediv_of_nonneg h0]; omega
 ·obtain ⟨a, rfl⟩ : ∃ a, m = -a := ⟨-m, by omega⟩
  rw [Int.neg_tdiv, Int.tdiv_eq_ediv_of_nonneg (by omega)]; omega
theorem pick_tells (c n : Int) (hc : I64 c) (hn : 0 < n) : ∃ r, dialtoneref24_pick.f c n = some r ∧ 0 ≤ r ∧ r < n := by
 unfold dialtoneref24_pick.f
 by_cases h : c < 0
 ·rw [if_pos h, if_neg (by omega)]
  rw [w64 (x := c + 1) (by unfold I64 at *; omega), w64 (by unfold I64 at *; omega)]
  exact ⟨_, rfl, tmod_tells (by omega) hn⟩
 ·rw [if_neg h, if_neg (by omega)]
  exact ⟨_, rfl, tmod_tells (by omega) hn⟩
theorem lawpick_eq (c n : Int) : dialtonelaw24_pick.f c n = dialtoneref24_pick.f c n := rfl
def From (h : List Int) (lag c r : Int) : Prop :=
 0 ≤ r ∧ r < h.length ∧ (h.length : Int) - 1 - lag ≤ r ∧ ∀ u : Int, 1 ≤ u → u < h.length → rd h u ≠ rd h (u - 1) → (rd h u = c ∨ rd h (u - 1) = c) → u ≤ r
theorem least_tells (h : List Int) (lag c : Int) (h1 : 1 ≤ h.length) (h2 : h.length ≤ 30) (l0 : 0 ≤ lag) (l1 : lag ≤ 10) : ∃ r, Ev (fun k => dialtoneref24_Least.f k h lag c) r ∧ From h lag c r := by
 have hN : wrap64 ((h.length : Int) - 1) = (h.length : Int) - 1 := w64 (by unfold I64; omega)
 have hL : wrap64 (wrap64 ((h.length : Int) - 1) - lag) = (h.length : Int) - 1 - lag := by rw [hN]; exact w64 (by unfold I64; omega)
 have key : ∀ (d : Nat) (v x : Int), 1 ≤ v → v ≤ h.length → (h.length : Int) - v = d → 0 ≤ x → x < h.length → (h.length : Int) - 1 - lag ≤ x →
   (∀ u : Int, 1 ≤ u → u < v → rd h u ≠ rd h (u - 1) → (rd h u = c ∨ rd h (u - 1) = c) → u ≤ x) →
   ∃ r, Ev (fun k => dialtoneref24_Least.l0 k h c ((h.length : Int) - 1) x v) r ∧ From h lag c r := by
  intro d
  induction d with
  | zero =>
   intro v x v1 v2 hd x0 x1 x2 hx
   refine ⟨x, Ev.step (f := fun _ => some x) (fun k => ?_) (Ev.now _), x0, x1, x2, fun u a b => hx u a (by omega)⟩
   simp only [dialtoneref24_Least.l0]
   rw [if_neg (by omega)]
  | succ d ih =>
   intro v x v1 v2 hd x0 x1 x2 hx
   have hw1 : wrap64 (v - 1) = v - 1 := w64 (by unfold I64; omega)
   have hw2 : wrap64 (v + 1) = v + 1 := w64 (by unfold I64; omega)
   have hmx := mx_le x v
   by_cases e1 : rd h v = rd h (v - 1)
   ·obtain ⟨r, hr, hf⟩ := ih (v + 1) x (by omega) (by omega) (by omega) x0 x1 x2 (fun u a b hne hor => by
     by_cases hu : u = v
     ·subst hu; exact absurd e1 hne
     ·exact hx u a (by omega) hne hor)
    refine ⟨r, Ev.step (fun k => ?_) hr, hf⟩
    simp only [dialtoneref24_Least.l0]
    rw [if_pos (by omega), if_pos (by omega), if_pos (by omega), hw1, hw2, if_pos (by omega), if_pos (by omega), if_pos e1]
   ·have hy : ∃ r, Ev (fun k => dialtoneref24_Least.l0 k h c ((h.length : Int) - 1) (mx x v) (v + 1)) r ∧ From h lag c r :=
     ih (v + 1) (mx x v) (by omega) (by omega) (by omega) (by omega) (by rcases hmx.2.2 with e | e <;> rw [e] <;> omega) (by omega) (fun u a b hne hor => by
      by_cases hu : u = v
      ·subst hu; exact hmx.2.1
      ·exact Int.le_trans (hx u a (by omega) hne hor) hmx.1)
    by_cases e2 : rd h v = c
    ·obtain ⟨r, hr, hf⟩ := hy
     refine ⟨r, Ev.step (fun k => ?_) hr, hf⟩
     simp only [dialtoneref24_Least.l0]
     rw [if_pos (by omega), if_pos (by omega), if_pos (by omega), hw1, hw2, if_pos (by omega), if_pos (by omega), if_neg e1, if_pos e2]
    ·by_cases e3 : rd h (v - 1) = c
     ·obtain ⟨r, hr, hf⟩ := hy
      refine ⟨r, Ev.step (fun k => ?_) hr, hf⟩
      simp only [dialtoneref24_Least.l0]
      rw [if_pos (by omega), if_pos (by omega), if_pos (by omega), hw1, hw2, if_pos (by omega), if_pos (by omega), if_neg e1, if_neg e2, if_pos e3]
     ·obtain ⟨r, hr, hf⟩ := ih (v + 1) x (by omega) (by omega) (by omega) x0 x1 x2 (fun u a b hne hor => by
       by_cases hu : u = v
       ·subst hu; rcases hor with ho | ho
        ·exact absurd ho e2
        ·exact absurd ho e3
       ·exact hx u a (by omega) hne hor)
      refine ⟨r, Ev.step (fun k => ?_) hr, hf⟩
      simp only [dialtoneref24_Least.l0]
      rw [if_pos (by omega), if_pos (by omega), if_pos (by omega), hw1, hw2, if_pos (by omega), if_pos (by omega), if_neg e1, if_neg e2, if_neg e3]
 have hm := mx_le 0 ((h.length : Int) - 1 - lag)
 obtain ⟨r, hr, hf⟩ := key (h.length - 1) 1 (mx 0 ((h.length : Int) - 1 - lag)) (by omega) (by omega) (by omega) hm.1 (by rcases hm.2.2 with e | e <;> rw [e] <;> omega) hm.2.1 (fun u a b => by omega)
 refine ⟨r, Ev.congr (fun k => ?_) hr, hf⟩
 unfold dialtoneref24_Least.f
 rw [hL, hN]
theorem rd_append_lt (xs ys : List Int) (i : Nat) (h : i < xs.length) : rd (xs ++ ys) i = rd xs i := by simp [rd, List.getElem?_append_left, h]
theorem rd_append_eq (xs : List Int) (y : Int) : rd (xs ++ [y]) xs.length = y := by simp [rd]
theorem rd_i64 {y : List Int} (hy : ∀ x ∈ y, I64 x) (i : Int) : I64 (rd y i) := by
 unfold rd
 rw [List.getD_eq_getElem?_getD]
 cases h : y[i.toNat]? with
 | none => simp [I64]
 | some v => exact hy v (List.mem_of_getElem? h)
theorem known_tells (h y : List Int) (lag : Int) (h1 : 1 ≤ h.length) (h2 : h.length ≤ 30) (l0 : 0 ≤ lag) (l1 : lag ≤ 10) (hy : ∀ x ∈ y, I64 x) :
  ∃ kn, Ev (fun k => dialtoneref24_Known.f k h lag y) kn ∧ kn.length = 8 ∧ ∀ c : Nat, c < 8 → rd kn c = -1 ∨ From h lag c (rd kn c) := by
 have key : ∀ (d : Nat) (xs : List Int), xs.length + d = 8 → (∀ c : Nat, c < xs.length → rd xs c = -1 ∨ From h lag c (rd xs c)) →
   ∃ kn, Ev (fun k => dialtoneref24_Known.l0 k h lag y xs xs.length) kn ∧ kn.length = 8 ∧ ∀ c : Nat, c < 8 → rd kn c = -1 ∨ From h lag c (rd kn c) := by
  intro d
  induction d with
  | zero =>
   intro xs hd hx
   refine ⟨xs, Ev.step (f := fun _ => some xs) (fun k => ?_) (Ev.now _), by omega, fun c hc => hx c (by omega)⟩
   simp only [dialtoneref24_Known.l0]
   rw [if_neg (by omega)]
  | succ d ih =>
   intro xs hd hx
   obtain ⟨r, hr, f0, f1, f2, f3⟩ := least_tells h lag xs.length h1 h2 l0 l1
   have hw2 : wrap64 ((xs.length : Int) + 1) = ((xs.length + 1 : Nat) : Int) := by rw [w64 (by unfold I64; omega)]; omega
   have body : ∀ m : Int, I64 m → ∃ kn, Ev (fun k => dialtoneref24_Known.j1 k h lag y xs xs.length r m) kn ∧ kn.length = 8 ∧ ∀ c : Nat, c < 8 → rd kn c = -1 ∨ From h lag c (rd kn c) := by
    intro m hm
    obtain ⟨a, ha, a0, a1⟩ := pick_tells (Int.tdiv m 16) ((h.length : Int) - r) (tdiv_i64 hm) (by omega)
    obtain ⟨b, hb, b0, b1⟩ := pick_tells m 16 hm (by omega)
    have e1 : wrap64 (Int.tdiv m 16) = Int.tdiv m 16 := w64 (tdiv_i64 hm)
    have e2 : wrap64 ((h.length : Int) - r) = (h.length : Int) - r := w64 (by unfold I64; omega)
    have e3 : wrap64 (r + a) = r + a := w64 (by unfold I64; omega)
    by_cases h15 : b = 15
    ·obtain ⟨kn, hk, hl, hok⟩ := ih (xs ++ [-1]) (by simp; omega) (fun c hc => by
      rcases Nat.lt_or_ge c xs.length with hlt | hge
      ·rw [rd_append_lt _ _ _ hlt]; exact hx c hlt
      ·have : c = xs.length := by simp at hc; omega
       subst this; rw [rd_append_eq]; exact .inl rfl)
     refine ⟨kn, Ev.step (fun k => ?_) hk, hl, hok⟩
     simp only [dialtoneref24_Known.j1]
     rw [e1, e2, ha, hb]
     simp only [ob]
     rw [if_pos h15, if_pos (by omega), hw2]
     simp
    ·obtain ⟨kn, hk, hl, hok⟩ := ih (xs ++ [r + a]) (by simp; omega) (fun c hc => by
      rcases Nat.lt_or_ge c xs.length with hlt | hge
      ·rw [rd_append_lt _ _ _ hlt]; exact hx c hlt
      ·have : c = xs.length := by simp at hc; omega
       subst this; rw [rd_append_eq]
       exact .inr ⟨by omega, by omega, by omega, fun u u1 u2 hne hor => by have := f3 u u1 u2 hne hor; omega⟩)
     refine ⟨kn, Ev.step (fun k => ?_) hk, hl, hok⟩
     simp only [dialtoneref24_Known.j1]
     rw [e1, e2, ha, hb]
     simp only [ob]
     rw [if_neg h15, if_pos (by omega), hw2, e3]
     simp
   by_cases hlt : (xs.length : Int) < (y.length : Int)
   ·obtain ⟨kn, hk, hl, hok⟩ := body (rd y xs.length) (rd_i64 hy _)
    refine ⟨kn, Ev.step (fun k => ?_) (Ev.bind (f := fun k r => dialtoneref24_Known.j1 k h lag y xs xs.length r (rd y xs.length)) hr hk), hl, hok⟩
    simp only [dialtoneref24_Known.l0]
    rw [if_pos (by omega)]
    simp only [if_pos hlt, if_pos (show (0 : Int) ≤ xs.length by omega)]
   ·obtain ⟨kn, hk, hl, hok⟩ := body 0 (by simp [I64])
    refine ⟨kn, Ev.step (fun k => ?_) (Ev.bind (f := fun k r => dialtoneref24_Known.j1 k h lag y xs xs.length r 0) hr hk), hl, hok⟩
    simp only [dialtoneref24_Known.l0]
    rw [if_pos (by omega)]
    simp only [if_neg hlt]
 exact key 8 [] rfl (fun c hc => by simp at hc)
theorem known_valid (h y : List Int) (lag : Int) (h1 : 1 ≤ h.length) (h2 : h.length ≤ 30) (hh : ∀ i : Int, 0 ≤ i → i < h.length → -1 ≤ rd h i ∧ rd h i ≤ 7) (l0 : 0 ≤ lag) (l1 : lag ≤ 10) (hy : ∀ x ∈ y, I64 x) :
  ∃ kn, Ev (fun k => dialtoneref24_Known.f k h lag y) kn ∧ VK h kn lag := by
 obtain ⟨kn, hk, hl, hok⟩ := known_tells h y lag h1 h2 l0 l1 hy
 refine ⟨kn, hk, h1, h2, hh, hl, l0, l1, fun c c0 c8 => ?_⟩
 have := hok c.toNat (by omega)
 rw [show ((c.toNat : Nat) : Int) = c by omega] at this
 rcases this with h | ⟨a, b, d, e⟩
 ·exact .inl h
 ·exact .inr ⟨a, d, b, e⟩
theorem path_ev {h k : List Int} {lag c : Int} (H : VK h k lag) (c0 : 0 ≤ c) (c8 : c < 8) (hk : 0 ≤ rd k c) : ∃ l e, Ev (fun n => route_Path.f n h k lag c) (l, e, 0) ∧ Path h k c (-1) l e := by
 obtain ⟨xs, hxs, hp⟩ := path_tells H _ c (-1) c0 c8 hk (by omega) (by have := H.len1; omega) (.inl rfl) (Nat.le_refl _)
 refine ⟨_, _, Ev.of (fun n => route_Path.mono _ _ _ _ n) (k := (2 * ((h.length : Int) - -1) + (if rd h (-1) = c ∧ (0 : Int) ≤ -1 then 0 else 1)).toNat + 1) ?_, hp⟩
 have hcc : route_canCall.f h k lag c = some true := by
  unfold route_canCall.f route_Valid.f
  rw [(valid_iff h k lag).mpr H]
  have hl := H.klen
  simp only [ob, if_true, route_isWithin.tells]
  have : inB c 0 7 = true := by simp [inB]; omega
  rw [this, if_pos rfl, if_pos c0, if_pos (by omega)]
  simp; omega
 unfold route_Path.f
 rw [hcc]
 simp only [ob, if_true]
 rw [hxs]
 simp only [ob]
 have hs := hp.short H c0 c8 hk
 have h1 := H.lag1
 rw [if_pos (by simp at hs; omega)]
theorem path_down {h k : List Int} {lag c : Int} (H : VK h k lag) (c0 : 0 ≤ c) (c8 : c < 8) (hk : ¬ 0 ≤ rd k c) : Ev (fun n => route_Path.f n h k lag c) ([], 0, 240) := by
 refine ⟨0, fun n _ => ?_⟩
 have hcc : route_canCall.f h k lag c = some false := by
  unfold route_canCall.f route_Valid.f
  rw [(valid_iff h k lag).mpr H]
  have hl := H.klen
  simp only [ob, if_true, route_isWithin.tells]
  have : inB c 0 7 = true := by simp [inB]; omega
  rw [this, if_pos rfl, if_pos c0, if_pos (by omega)]
  simp; omega
 unfold route_Path.f
 rw [hcc]
 rfl
end Go.Proofs.Ytlhhcjlcaacfpaa.T24
namespace Go.Proofs.Ytlhhcjlcaacfpaa.T24
open Go.RowKit Go.Proofs.Ytlhhcjlcaacfpaa.P Go.Proofs.YtlhhcjlcaacfpaaW.PrintWords
theorem sane_at : dialtonelaw24_sane.f 30 = some true := by decide +kernel
theorem sane_ev : Ev (fun k => dialtonelaw24_sane.f k) true := Ev.of (fun k => dialtonelaw24_sane.mono k) (k := 30) sane_at
end Go.Proofs.Ytlhhcjlcaacfpaa.T24
namespace Go.Proofs.Ytlhhcjlcaacfpaa.B23
open Go.RowKit Go.Proofs.Ytlhhcjlcaacfpaa.P Go.Proofs.YtlhhcjlcaacfpaaW.PrintWords Go.Proofs.YtlhhcjlcaacfpaaW.PrintLast Go.Proofs.YtlhhcjlcaacfpaaW.PrintMore
abbrev BL := S99
abbrev RG := S55
abbrev UP := S58
def Ok (last : BL) (l : List BL) : Prop := anyBad last l = false
def start : BL := ⟨⟨0, 0⟩, -1⟩
structure Good (last b : BL) : Prop where
 f0 : 0 ≤ b.f0.f0
 ft : b.f0.f0 < b.f0.f1
 t1 : b.f0.f1 ≤ 100000000
 c0 : 0 ≤ b.f1
 c1 : b.f1 ≤ 7
 up : last.f0.f1 ≤ b.f0.f0
 ne : ¬ (b.f0.f0 = last.f0.f1 ∧ b.f1 = last.f1)
theorem good_iff (last b : BL) : badB last b = false ↔ Good last b := by
 unfold badB rangeB carrierB
 simp only [Bool.or_eq_false_iff, Bool.not_eq_false', Bool.and_eq_true, decide_eq_true_eq, decide_eq_false_iff_not, Bool.and_eq_false_iff, beq_eq_false_iff_ne]
 constructor
 ·rintro ⟨⟨⟨⟨⟨h1, h2⟩, h3⟩, h4, h5⟩, h6⟩, h7⟩
  exact ⟨h1, h2, h3, h4, h5, by omega, fun ⟨e1, e2⟩ => by
   rcases h7 with h7 | h7
   ·exact h7 e1
   ·exact h7 e2⟩
 ·rintro ⟨h1, h2, h3, h4, h5, h6, h7⟩
  refine ⟨⟨⟨⟨⟨h1, h2⟩, h3⟩, h4, h5⟩, by omega⟩, ?_⟩
  by_cases e : b.f0.f0 = last.f0.f1
  ·exact .inr fun e2 => h7 ⟨e, e2⟩
  ·exact .inl e
theorem ok_nil (last : BL) : Ok last [] := rfl
theorem ok_cons {last b : BL} {l : List BL} : Ok last (b :: l) ↔ Good last b ∧ Ok b l := by
 unfold Ok
 simp only [anyBad, Bool.or_eq_false_iff, good_iff]
theorem ok_snoc : ∀ {last : BL} {l : List BL} {b : BL}, Ok last (l ++ [b]) ↔ Ok last l ∧ Good (l.getLastD last) b
 | last, [], b => by simp [ok_cons, ok_nil]
 | last, a :: l, b => by
  rw [List.cons_append, ok_cons, ok_snoc, ok_cons]
  rw [show (a :: l).getLastD last = l.getLastD a by cases l <;> simp [List.getLastD]]
  exact and_assoc.symm
theorem ok_from : ∀ {last : BL} {l : List BL}, Ok last l → ∀ b ∈ l, last.f0.f1 ≤ b.f0.f0 ∧ 0 ≤ b.f0.f0 ∧ b.f0.f0 < b.f0.f1 ∧ b.f0.f1 ≤ 100000000 ∧ 0 ≤ b.f1 ∧ b.f1 ≤ 7
 | _, [], _, b, hb => by cases hb
 | last, a :: l, h, b, hb => by
  obtain ⟨g, h2⟩ := ok_cons.1 h
  rcases List.mem_cons.1 hb with rfl | hb
  ·exact ⟨g.up, g.f0, g.ft, g.t1, g.c0, g.c1⟩
  ·have := ok_from h2 b hb
   have h3 := g.up
   have h4 := g.ft
   omega
def holdF : List BL → Int → Int
 | [], _ => -1
 | b :: l, n => if b.f0.f0 ≤ n ∧ n < b.f0.f1 then b.f1 else holdF l n
theorem holdF_none {l : List BL} {n : Int} (h : ∀ b ∈ l, n < b.f0.f0 ∨ b.f0.f1 ≤ n) : holdF l n = -1 := by
 induction l with
 | nil => rfl
 | cons b l ih =>
  have hb := h b (by simp)
  rw [holdF, if_neg (by omega)]
  exact ih fun x hx => h x (by simp [hx])
def bd (l : List BL) : List Int := l.flatMap fun b => [b.f0.f0, b.f0.f1]
theorem bd_cons (b : BL) (l : List BL) : bd (b :: l) = b.f0.f0 :: b.f0.f1 :: bd l := rfl
theorem bd_mem {l : List BL} {x : Int} : x ∈ bd l ↔ ∃ b ∈ l, x = b.f0.f0 ∨ x = b.f0.f1 := by
 simp [bd, List.mem_flatMap]
theorem bd_length (l : List BL) : (bd l).length = 2 * l.length := by
 induction l with
 | nil => rfl
 | cons b l ih => rw [bd_cons]; simp only [List.length_cons, ih]; omega
def cnt (p : Int) (l : List Int) : Nat := (l.filter fun x => decide (p < x)).length
theorem cnt_cons (p x : Int) (l : List Int) : cnt p (x :: l) = cnt p l + if p < x then 1 else 0 := by
 unfold cnt
 by_cases h : p < x <;> simp [h]
theorem cnt_mono {p q : Int} (h : p ≤ q) (l : List Int) : cnt q l ≤ cnt p l := by
 induction l with
 | nil => exact Nat.le_refl _
 | cons x l ih =>
  rw [cnt_cons, cnt_cons]
  by_cases h1 : q < x
  ·rw [if_pos h1, if_pos (by omega)]; omega
  ·rw [if_neg h1]; omega
theorem cnt_less {p q : Int} {l : List Int} (h : p < q) (hq : q ∈ l) : cnt q l < cnt p l := by
 induction l with
 | nil => cases hq
 | cons x l ih =>
  rw [cnt_cons, cnt_cons]
  have hm := cnt_mono (Int.le_of_lt h) l
  rcases List.mem_cons.1 hq with rfl | hq
  ·rw [if_neg (by omega), if_pos h]; omega
  ·have := ih hq
   by_cases h1 : q < x
   ·rw [if_pos h1, if_pos (by omega)]; omega
   ·rw [if_neg h1]; omega
theorem cnt_le (p : Int) (l : List Int) : cnt p l ≤ l.length := List.length_filter_le _ _
structure AtSpec (p : Int) (l : List BL) (z : List BL × Int × Int) : Prop where
 ok : ∃ last, Ok last z.1
 lt : p < z.2.2
 le : z.2.2 ≤ 100000000
 rest : ∀ n, p ≤ n → holdF z.1 n = holdF l n
 here : ∀ n, p ≤ n → n < z.2.2 → holdF l n = z.2.1
 edge : z.2.2 = 100000000 ∨ z.2.2 ∈ bd z.1
 sub : ∀ x ∈ bd z.1, x ∈ bd l
 count : ∀ q, cnt q (bd z.1) ≤ cnt q (bd l)
 c0 : -1 ≤ z.2.1
 c1 : z.2.1 ≤ 7
theorem atF_spec : ∀ (l : List BL) (last : BL) (p : Int), Ok last l → p ≤ 99999999 → AtSpec p l (atF p l)
 | [], last, p, h, hp => by
  simp only [atF]
  exact ⟨⟨last, h⟩, by simp only; omega, Int.le_refl _, fun _ _ => rfl, fun _ _ _ => rfl, .inl rfl, fun _ hx => hx, fun _ => Nat.le_refl _, by simp, by simp⟩
 | b :: l, last, p, h, hp => by
  obtain ⟨g, h2⟩ := ok_cons.1 h
  have g1 := g.ft
  have g2 := g.t1
  have g3 := g.c0
  have g4 := g.c1
  simp only [atF]
  by_cases h1 : b.f0.f1 ≤ p
  ·rw [if_pos h1]
   obtain ⟨a1, a2, a3, a4, a5, a6, a7, a8, a9, a10⟩ := atF_spec l b p h2 hp
   have hh : ∀ n, p ≤ n → holdF (b :: l) n = holdF l n := fun n hn => by rw [holdF, if_neg (by omega)]
   refine ⟨a1, a2, a3, fun n hn => by rw [hh n hn]; exact a4 n hn, fun n hn hn2 => by rw [hh n hn]; exact a5 n hn hn2, a6, fun x hx => by rw [bd_cons]; simp [a7 x hx], fun q => ?_, a9, a10⟩
   rw [bd_cons, cnt_cons, cnt_cons]
   have := a8 q
   omega
  ·rw [if_neg h1]
   by_cases h3 : p < b.f0.f0
   ·rw [if_pos h3]
    refine ⟨⟨last, h⟩, h3, by simp only; omega, fun _ _ => rfl, fun n hn hn2 => ?_, .inr (by rw [bd_cons]; simp), fun _ hx => hx, fun _ => Nat.le_refl _, by simp, by simp⟩
    simp only at hn2
    refine holdF_none fun x hx => ?_
    rcases List.mem_cons.1 hx with rfl | hx
    ·exact .inl hn2
    ·have := (ok_from h2 x hx).1
     exact .inl (by omega)
   ·rw [if_neg h3]
    refine ⟨⟨last, h⟩, by simp only; omega, g2, fun _ _ => rfl, fun n hn hn2 => ?_, .inr (by rw [bd_cons]; simp), fun _ hx => hx, fun _ => Nat.le_refl _, by simp only; omega, g4⟩
    simp only at hn2
    rw [holdF, if_pos (by omega)]
abbrev PC := RG × Int × Int
def Tiles (S : Int → Prop) (f g : Int → Int) : Int → List PC → Prop
 | p, [] => 100000000 ≤ p
 | p, q :: zs => q.1.f0 = p ∧ p < q.1.f1 ∧ q.1.f1 ≤ 100000000 ∧ (∀ n, p ≤ n → n < q.1.f1 → f n = q.2.1 ∧ g n = q.2.2) ∧ (q.1.f1 = 100000000 ∨ S q.1.f1) ∧ (-1 ≤ q.2.1 ∧ q.2.1 ≤ 7) ∧ (-1 ≤ q.2.2 ∧ q.2.2 ≤ 7) ∧ Tiles S f g q.1.f1 zs
theorem Tiles.imp {S S' : Int → Prop} {f g f' g' : Int → Int} : ∀ {zs : List PC} {p : Int}, (∀ x, S x → S' x) → (∀ n, p ≤ n → f n = f' n) → (∀ n, p ≤ n → g n = g' n) → Tiles S f g p zs → Tiles S' f' g' p zs
 | [], _, _, _, _, h => h
 | q :: zs, p, hS, hf, hg, ⟨h1, h2, h3, h4, h5, h6, h7, h8⟩ =>
  ⟨h1, h2, h3, fun n hn hn2 => by rw [← hf n hn, ← hg n hn]; exact h4 n hn hn2, h5.imp_right (hS _), h6, h7, Tiles.imp hS (fun n hn => hf n (by omega)) (fun n hn => hg n (by omega)) h8⟩
theorem piecesE_spec : ∀ (k : Nat) (a b : List BL) (p : Int), (∃ la, Ok la a) → (∃ lb, Ok lb b) → p ≤ 100000000 → cnt p (bd a) + cnt p (bd b) + 2 ≤ k →
  ∃ zs, piecesE k a b p = some zs ∧ Tiles (fun x => x ∈ bd a ∨ x ∈ bd b) (holdF a) (holdF b) p zs ∧ zs.length + 1 ≤ k
 | 0, _, _, _, _, _, _, h => by omega
 | k + 1, a, b, p, ⟨la, ha⟩, ⟨lb, hb⟩, hp, hk => by
  unfold piecesE
  by_cases h : p ≤ 99999999
  ·rw [if_pos h]
   have A := atF_spec a la p ha h
   have B := atF_spec b lb p hb h
   generalize atF p a = za at A
   generalize atF p b = zb at B
   obtain ⟨a2, x, t1⟩ := za
   obtain ⟨b2, y, t2⟩ := zb
   obtain ⟨a1, a3, a4, a5, a6, a7, a8, a9, a10, a11⟩ := A
   obtain ⟨b1, b3, b4, b5, b6, b7, b8, b9, b10, b11⟩ := B
   simp only at a1 a3 a4 a5 a6 a7 a8 a9 a10 a11 b1 b3 b4 b5 b6 b7 b8 b9 b10 b11 ⊢
   obtain ⟨tt, htt⟩ : ∃ tt, (if t2 < t1 then t2 else t1) = tt := ⟨_, rfl⟩
   rw [htt]
   have ht : tt ≤ t1 ∧ tt ≤ t2 ∧ (tt = t1 ∨ tt = t2) := by rw [← htt]; split <;> omega
   have hcnt : tt = 100000000 ∨ cnt tt (bd a2) + cnt tt (bd b2) + 2 ≤ k := by
    have m1 := a9 p
    have m2 := b9 p
    have m3 := cnt_mono (p := p) (q := tt) (by omega) (bd a2)
    have m4 := cnt_mono (p := p) (q := tt) (by omega) (bd b2)
    rcases ht.2.2 with e | e
    ·rcases a7 with e2 | e2
     ·exact .inl (by omega)
     ·have := cnt_less (p := p) (q := tt) (by omega) (by rw [e]; exact e2)
      exact .inr (by omega)
    ·rcases b7 with e2 | e2
     ·exact .inl (by omega)
     ·have := cnt_less (p := p) (q := tt) (by omega) (by rw [e]; exact e2)
      exact .inr (by omega)
   have hedge : tt = 100000000 ∨ (tt ∈ bd a ∨ tt ∈ bd b) := by
    rcases ht.2.2 with e | e
    ·rcases a7 with e2 | e2
     ·exact .inl (by omega)
     ·exact .inr (.inl (by rw [e]; exact a8 _ e2))
    ·rcases b7 with e2 | e2
     ·exact .inl (by omega)
     ·exact .inr (.inr (by rw [e]; exact b8 _ e2))
   rcases hcnt with e | hcnt
   ·obtain ⟨k, rfl⟩ : ∃ m, k = m + 1 := ⟨k - 1, by omega⟩
    subst e
    refine ⟨[(⟨p, 100000000⟩, x, y)], ?_, ?_, by simp⟩
    ·unfold piecesE
     rw [if_neg (by omega)]
     rfl
    ·exact ⟨rfl, by simp only; omega, Int.le_refl _, fun n hn hn2 => ⟨a6 n hn (by simp only at hn2; omega), b6 n hn (by simp only at hn2; omega)⟩, .inl rfl, ⟨a10, a11⟩, ⟨b10, b11⟩, Int.le_refl _⟩
   ·obtain ⟨zs, hz, hT, hl⟩ := piecesE_spec k a2 b2 tt a1 b1 (by omega) hcnt
    rw [hz]
    refine ⟨_, rfl, ⟨rfl, by simp only; omega, by simp only; omega, fun n hn hn2 => ⟨a6 n hn (by simp only at hn2; omega), b6 n hn (by simp only at hn2; omega)⟩, hedge, ⟨a10, a11⟩, ⟨b10, b11⟩, ?_⟩, by simp only [List.length_cons]; omega⟩
    exact hT.imp (fun x hx => hx.imp (a8 x) (b8 x)) (fun n hn => a5 n (by simp only at hn; omega)) (fun n hn => b5 n (by simp only at hn; omega))
  ·rw [if_neg h]
   exact ⟨[], rfl, by simp only [Tiles]; omega, by simp⟩
structure InvC (L : List Int) (hh : Int → Int) (p : Int) (out : List BL) : Prop where
 ok : Ok start out
 le : ∀ b ∈ out, b.f0.f1 ≤ p
 at_ : ∀ n, 0 ≤ n → n < p → holdF out n = hh n
 fr : ∀ x ∈ bd out, x ∈ L
 pe : p ∈ L
 p0 : 0 ≤ p
theorem holdF_app (l1 l2 : List BL) (n : Int) (h1 : ∀ b ∈ l1, b.f0.f1 ≤ n) : holdF (l1 ++ l2) n = holdF l2 n := by
 induction l1 with
 | nil => rfl
 | cons a l ih =>
  have := h1 a (by simp)
  rw [List.cons_append, holdF, if_neg (by omega)]
  exact ih fun b hb => h1 b (by simp [hb])
theorem holdF_app_lt (l1 l2 : List BL) (n : Int) (h1 : ∀ b ∈ l2, n < b.f0.f0) : holdF (l1 ++ l2) n = holdF l1 n := by
 induction l1 with
 | nil => exact holdF_none fun b hb => .inl (h1 b hb)
 | cons a l ih => rw [List.cons_append, holdF, holdF, ih]
theorem stepC_inv {L : List Int} {h : Int → Int → Int} {f g : Int → Int} (hr : ∀ x y, -1 ≤ x → x ≤ 7 → -1 ≤ y → y ≤ 7 → -1 ≤ h x y ∧ h x y ≤ 7) {p : Int} {out : List BL} {q : PC} {zs : List PC}
  (I : InvC L (fun n => h (f n) (g n)) p out) (hL : 100000000 ∈ L) (T : Tiles (· ∈ L) f g p (q :: zs)) : InvC L (fun n => h (f n) (g n)) q.1.f1 (stepC h out q) := by
 obtain ⟨⟨qa, qb⟩, x, y⟩ := q
 obtain ⟨t1, t2, t3, t4, t5, t6, t7, t8⟩ := T
 simp only at t1 t2 t3 t4 t5 t6 t7 t8 ⊢
 subst t1
 obtain ⟨i1, i2, i3, i4, i5, i6⟩ := I
 have hx := hr x y t6.1 t6.2 t7.1 t7.2
 have hpe : qb ∈ L := by
  rcases t5 with e | e
  ·rw [e]; exact hL
  ·exact e
 unfold stepC
 simp only
 generalize hc : h x y = c at hx
 have hin : ∀ n, qa ≤ n → n < qb → h (f n) (g n) = c := fun n hn hn2 => by rw [(t4 n hn hn2).1, (t4 n hn hn2).2, hc]
 by_cases h1 : c = -1
 ·rw [if_pos h1]
  refine ⟨i1, fun b hb => by have := i2 b hb; omega, fun n hn hn2 => ?_, i4, hpe, by omega⟩
  by_cases h2 : n < qa
  ·exact i3 n hn h2
  ·show _ = h (f n) (g n)
   rw [hin n (by omega) hn2, h1]
   exact holdF_none fun b hb => .inr (by have := i2 b hb; omega)
 ·rw [if_neg h1]
  have new : (∀ b, out.getLast? = some b → ¬ (b.f0.f1 = qa ∧ b.f1 = c)) → InvC L (fun n => h (f n) (g n)) qb (out ++ [⟨⟨qa, qb⟩, c⟩]) := fun hl => by
   refine ⟨ok_snoc.2 ⟨i1, i6, t2, t3, by simp only; omega, hx.2, ?_, ?_⟩, fun b hb => ?_, fun n hn hn2 => ?_, fun z hz => ?_, hpe, by omega⟩
   ·rcases List.eq_nil_or_concat out with rfl | ⟨l0, b, rfl⟩
    ·exact i6
    ·have := i2 b (by simp)
     rw [List.concat_eq_append, List.getLastD_concat]; exact this
   ·rcases List.eq_nil_or_concat out with rfl | ⟨l0, b, rfl⟩
    ·simp only [List.getLastD, start]
     exact fun e => h1 e.2
    ·have := hl b (by simp)
     have e : ((l0.concat b).getLastD start) = b := by rw [List.concat_eq_append, List.getLastD_concat]
     rw [e]
     exact fun e => this ⟨e.1.symm, e.2.symm⟩
   ·rcases List.mem_append.1 hb with hb | hb
    ·have := i2 b hb
     omega
    ·obtain rfl : b = ⟨⟨qa, qb⟩, c⟩ := by simpa using hb
     exact Int.le_refl _
   ·by_cases h2 : n < qa
    ·rw [holdF_app_lt _ _ _ (by simpa using h2)]
     exact i3 n hn h2
    ·rw [holdF_app _ _ _ fun b hb => by have := i2 b hb; omega]
     show _ = h (f n) (g n)
     rw [hin n (by omega) hn2, holdF, if_pos ⟨by simp only; omega, hn2⟩]
   ·obtain ⟨b, hb, e⟩ := bd_mem.1 hz
    rcases List.mem_append.1 hb with hb | hb
    ·exact i4 z (bd_mem.2 ⟨b, hb, e⟩)
    ·obtain rfl : b = ⟨⟨qa, qb⟩, c⟩ := by simpa using hb
     rcases e with rfl | rfl
     ·exact i5
     ·exact hpe
  cases hg : out.getLast? with
  | none => exact new fun b hb => by rw [hg] at hb; cases hb
  | some b =>
   simp only
   by_cases h2 : b.f0.f1 = qa ∧ b.f1 = c
   ·rw [if_pos h2]
    obtain ⟨l0, rfl⟩ : ∃ l0, out = l0 ++ [b] := by
     rcases List.eq_nil_or_concat out with rfl | ⟨l0, b2, rfl⟩
     ·cases hg
     ·simp at hg; subst hg; exact ⟨l0, by simp⟩
    obtain ⟨h3, h4⟩ := h2
    rw [show (l0 ++ [b]).set ((l0 ++ [b]).length - 1) ⟨⟨b.f0.f0, qb⟩, b.f1⟩ = l0 ++ [(⟨⟨b.f0.f0, qb⟩, b.f1⟩ : BL)] by simp]
    obtain ⟨o1, o2⟩ := ok_snoc.1 i1
    obtain ⟨g1, g2, g3, g4, g5, g6, g7⟩ := o2
    refine ⟨ok_snoc.2 ⟨o1, g1, by simp only; omega, t3, g4, g5, g6, g7⟩, fun b2 hb => ?_, fun n hn hn2 => ?_, fun z hz => ?_, hpe, by omega⟩
    ·rcases List.mem_append.1 hb with hb | hb
     ·have := i2 b2 (by simp [hb])
      omega
     ·obtain rfl : b2 = ⟨⟨b.f0.f0, qb⟩, b.f1⟩ := by simpa using hb
      exact Int.le_refl _
    ·have hlow : ∀ b2 ∈ l0, b2.f0.f1 ≤ b.f0.f0 := fun b2 hb => by
      clear hg i3 new i4
      have : ∀ (last : BL) (l : List BL), Ok last (l ++ [b]) → ∀ b2 ∈ l, b2.f0.f1 ≤ b.f0.f0 := fun last l => by
       induction l generalizing last with
       | nil => intro _ _ hb; cases hb
       | cons a l ih =>
        intro ho b2 hb
        obtain ⟨_, ho⟩ := ok_cons.1 ho
        rcases List.mem_cons.1 hb with rfl | hb
        ·exact (ok_from ho b (by simp)).1
        ·exact ih _ ho b2 hb
      exact this _ _ i1 b2 hb
     by_cases h5 : n < qa
     ·rw [← i3 n hn h5]
      by_cases h6 : b.f0.f0 ≤ n
      ·rw [holdF_app _ _ _ fun b2 hb => by have := hlow b2 hb; omega, holdF_app _ _ _ fun b2 hb => by have := hlow b2 hb; omega]
       have e1 : holdF [(⟨⟨b.f0.f0, qb⟩, b.f1⟩ : BL)] n = b.f1 := by rw [holdF, if_pos ⟨h6, hn2⟩]
       have e2 : holdF [b] n = b.f1 := by rw [holdF, if_pos (by omega)]
       rw [e1, e2]
      ·rw [holdF_app_lt _ _ _ (by simp; omega), holdF_app_lt _ _ _ (by simp; omega)]
     ·show _ = h (f n) (g n)
      rw [hin n (by omega) hn2, holdF_app _ _ _ fun b2 hb => by have := hlow b2 hb; omega, holdF, if_pos ⟨by simp only; omega, hn2⟩]
      exact h4
    ·obtain ⟨b2, hb, e⟩ := bd_mem.1 hz
     rcases List.mem_append.1 hb with hb | hb
     ·exact i4 z (bd_mem.2 ⟨b2, by simp [hb], e⟩)
     ·obtain rfl : b2 = ⟨⟨b.f0.f0, qb⟩, b.f1⟩ := by simpa using hb
      rcases e with rfl | rfl
      ·exact i4 _ (bd_mem.2 ⟨b, by simp, .inl rfl⟩)
      ·exact hpe
   ·rw [if_neg h2]
    exact new fun b2 hb => by
     rw [hg] at hb
     cases hb
     exact h2
theorem combL_inv {L : List Int} {h : Int → Int → Int} {f g : Int → Int} (hr : ∀ x y, -1 ≤ x → x ≤ 7 → -1 ≤ y → y ≤ 7 → -1 ≤ h x y ∧ h x y ≤ 7) (hL : 100000000 ∈ L) :
  ∀ (zs : List PC) (p : Int) (out : List BL), InvC L (fun n => h (f n) (g n)) p out → Tiles (· ∈ L) f g p zs → ∃ p', 100000000 ≤ p' ∧ InvC L (fun n => h (f n) (g n)) p' (zs.foldl (stepC h) out)
 | [], p, out, I, T => ⟨p, T, I⟩
 | q :: zs, p, out, I, T => by
  have J := stepC_inv hr I hL T
  obtain ⟨t1, t2, t3, t4, t5, t6, t7, t8⟩ := T
  exact combL_inv hr hL zs _ _ J t8
theorem ok_len {L : List Int} : ∀ (l : List BL) (last : BL) (p : Int), Ok last l → (∀ x ∈ bd l, x ∈ L) → (∀ b ∈ l, p < b.f0.f0) → l.length ≤ cnt p L
 | [], _, _, _, _, _ => Nat.zero_le _
 | b :: l, last, p, h, hs, hp => by
  obtain ⟨g, h2⟩ := ok_cons.1 h
  have := ok_len l b b.f0.f0 h2 (fun x hx => hs x (by rw [bd_cons]; simp [hx])) (fun x hx => by have := (ok_from h2 x hx).1; have := g.ft; omega)
  have := cnt_less (l := L) (hp b (by simp)) (hs _ (by rw [bd_cons]; simp))
  simp only [List.length_cons]
  omega
theorem mapB_iff (m : List BL) : mapB m = true ↔ m.length ≤ 40 ∧ Ok start m := by
 unfold mapB Ok start
 simp
theorem combF_spec {L : List Int} {h : Int → Int → Int} (hr : ∀ x y, -1 ≤ x → x ≤ 7 → -1 ≤ y → y ≤ 7 → -1 ≤ h x y ∧ h x y ≤ 7) (h0 : 0 ∈ L) (hL : 100000000 ∈ L) (hl : L.length ≤ 40) {a b : List BL}
  (ha : a.length ≤ 40) (hb : b.length ≤ 40) (oa : ∃ x, Ok x a) (oc : ∃ x, Ok x b) (sa : ∀ x ∈ bd a, x ∈ L) (sb : ∀ x ∈ bd b, x ∈ L) :
  ∃ m, combF h a b = some (m, 0) ∧ mapB m = true ∧ (∀ x ∈ bd m, x ∈ L) ∧ ∀ n, 0 ≤ n → n ≤ 99999999 → holdF m n = h (holdF a n) (holdF b n) := by
 have c1 := cnt_le 0 (bd a)
 have c2 := cnt_le 0 (bd b)
 rw [bd_length] at c1 c2
 obtain ⟨zs, z1, z2, z3⟩ := piecesE_spec 200 a b 0 oa oc (by omega) (by omega)
 have T := z2.imp (S' := (· ∈ L)) (f' := holdF a) (g' := holdF b) (fun x hx => hx.elim (sa x) (sb x)) (fun _ _ => rfl) (fun _ _ => rfl)
 obtain ⟨p, hp, I⟩ := combL_inv hr hL zs 0 [] ⟨rfl, fun _ hb => (nomatch hb), fun n hn hn2 => absurd hn2 (by omega), fun _ hb => (nomatch hb), h0, Int.le_refl _⟩ T
 obtain ⟨i1, i2, i3, i4, i5, i6⟩ := I
 have hlen := ok_len (L := L) (combL h zs) start (-1) i1 i4 (fun x hx => by have := (ok_from i1 x hx).2.1; omega)
 have c3 := cnt_le (-1) L
 refine ⟨combL h zs, ?_, (mapB_iff _).2 ⟨by omega, i1⟩, i4, fun n hn hn2 => i3 n hn (by omega)⟩
 unfold combF
 rw [z1]
 simp only [ob]
 rw [if_pos (by omega), if_neg (by omega)]
def updH (n : Int) (x : Int) (u : UP) : Int := if u.f0.f0 ≤ n ∧ n < u.f0.f1 then u.f1 else x
def heldU (l : List UP) (n : Int) : Int := l.foldl (updH n) (-1)
def okU (u : UP) : Prop := rangeB u.f0 = true ∧ -1 ≤ u.f1 ∧ u.f1 ≤ 7
theorem rangeB_iff (r : RG) : rangeB r = true ↔ 0 ≤ r.f0 ∧ r.f0 < r.f1 ∧ r.f1 ≤ 100000000 := by
 unfold rangeB
 simp [and_assoc]
theorem stepM_spec {L : List Int} (h0 : 0 ∈ L) (hL : 100000000 ∈ L) (hl : L.length ≤ 40) {m : List BL} {u : UP} (hm : mapB m = true) (sm : ∀ x ∈ bd m, x ∈ L) (hu : okU u) (s1 : u.f0.f0 ∈ L) (s2 : u.f0.f1 ∈ L) :
  ∃ m', stepM m u = some (m', 0) ∧ mapB m' = true ∧ (∀ x ∈ bd m', x ∈ L) ∧ ∀ n, 0 ≤ n → n ≤ 99999999 → holdF m' n = updH n (holdF m n) u := by
 obtain ⟨u1, u2, u3⟩ := hu
 obtain ⟨m1, m2⟩ := (mapB_iff m).1 hm
 have ur := (rangeB_iff _).1 u1
 have one : ∀ c, 0 ≤ c → c ≤ 7 → Ok start [⟨u.f0, c⟩] ∧ ∀ x ∈ bd [(⟨u.f0, c⟩ : BL)], x ∈ L := fun c hc hc2 => by
  refine ⟨ok_cons.2 ⟨⟨ur.1, ur.2.1, ur.2.2, hc, hc2, ur.1, ?_⟩, ok_nil _⟩, fun x hx => ?_⟩
  ·rintro ⟨_, e⟩
   simp only [start] at e
   omega
  ·rw [bd_cons] at hx
   simp only [List.mem_cons] at hx
   rcases hx with rfl | rfl | hx
   ·exact s1
   ·exact s2
   ·cases hx
 unfold stepM
 by_cases hc : u.f1 = -1
 ·rw [if_pos hc]
  unfold block_Take.f
  rw [if_pos hm, if_pos u1]
  obtain ⟨o1, o2⟩ := one 0 (by omega) (by omega)
  obtain ⟨m', e1, e2, e3, e4⟩ := combF_spec (h := takeF) (fun x y hx hx2 hy hy2 => by unfold takeF; split <;> omega) h0 hL hl m1 (by simp) ⟨_, m2⟩ ⟨_, o1⟩ sm o2
  refine ⟨m', e1, e2, e3, fun n hn hn2 => ?_⟩
  rw [e4 n hn hn2]
  unfold takeF updH
  by_cases h1 : u.f0.f0 ≤ n ∧ n < u.f0.f1
  ·have e : holdF [(⟨u.f0, 0⟩ : BL)] n = 0 := by rw [holdF, if_pos h1]
   rw [if_pos h1, if_neg (by rw [e]; omega), hc]
  ·have e : holdF [(⟨u.f0, 0⟩ : BL)] n = -1 := by rw [holdF, if_neg h1]; rfl
   rw [if_neg h1, if_pos e]
 ·rw [if_neg hc]
  unfold block_Give.f
  rw [if_pos hm, if_pos u1, if_pos (by unfold carrierB; simp; omega)]
  obtain ⟨o1, o2⟩ := one u.f1 (by omega) u3
  obtain ⟨m', e1, e2, e3, e4⟩ := combF_spec (h := overF) (fun x y hx hx2 hy hy2 => by unfold overF; split <;> omega) h0 hL hl m1 (by simp) ⟨_, m2⟩ ⟨_, o1⟩ sm o2
  refine ⟨m', e1, e2, e3, fun n hn hn2 => ?_⟩
  rw [e4 n hn hn2]
  unfold overF updH
  by_cases h1 : u.f0.f0 ≤ n ∧ n < u.f0.f1
  ·have e : holdF [(⟨u.f0, u.f1⟩ : BL)] n = u.f1 := by rw [holdF, if_pos h1]
   rw [if_pos h1, if_neg (by rw [e]; omega), e]
  ·have e : holdF [(⟨u.f0, u.f1⟩ : BL)] n = -1 := by rw [holdF, if_neg h1]; rfl
   rw [if_neg h1, if_pos e]
theorem mapsFrom_spec {L : List Int} (h0 : 0 ∈ L) (hL : 100000000 ∈ L) (hl : L.length ≤ 40) : ∀ (l : List UP) (v : Nat) (m : List BL), mapB m = true → (∀ x ∈ bd m, x ∈ L) → (∀ u ∈ l, okU u ∧ u.f0.f0 ∈ L ∧ u.f0.f1 ∈ L) →
  ∃ xs, mapsFrom v m l = some xs ∧ xs.length = l.length + 1 ∧ ∀ i, i ≤ l.length → ∃ mi, xs[i]? = some (((v + i : Nat) : Int), mi) ∧ mapB mi = true ∧ ∀ n, 0 ≤ n → n ≤ 99999999 → holdF mi n = (l.take i).foldl (updH n) (holdF m n)
 | [], v, m, hm, _, _ => ⟨[((v : Int), m)], rfl, rfl, fun i hi => by
   obtain rfl : i = 0 := by simpa using hi
   exact ⟨m, rfl, hm, fun _ _ _ => rfl⟩⟩
 | u :: l, v, m, hm, sm, hu => by
  obtain ⟨u1, u2, u3⟩ := hu u (by simp)
  obtain ⟨m', e1, e2, e3, e4⟩ := stepM_spec h0 hL hl hm sm u1 u2 u3
  obtain ⟨xs, x1, x2, x3⟩ := mapsFrom_spec h0 hL hl l (v + 1) m' e2 e3 fun u hx => hu u (by simp [hx])
  refine ⟨((v : Int), m) :: xs, ?_, by simp [x2], fun i hi => ?_⟩
  ·simp only [mapsFrom]
   rw [e1, ob, if_pos rfl, x1]
   rfl
  ·rcases i with _ | i
   ·exact ⟨m, rfl, hm, fun _ _ _ => rfl⟩
   ·obtain ⟨mi, y1, y2, y3⟩ := x3 i (by simpa using hi)
    refine ⟨mi, ?_, y2, fun n hn hn2 => ?_⟩
    ·rw [List.getElem?_cons_succ, y1]
     congr 3
     omega
    ·rw [y3 n hn hn2, e4 n hn hn2]
     rfl
theorem hold_eq {m : List BL} (hm : mapB m = true) (n : Int) : hold m n = holdF m n := by
 unfold hold
 rw [if_pos hm]
 clear hm
 induction m with
 | nil => rfl
 | cons b l ih =>
  have hge := findIx_ge n l
  unfold findIx holdF inBlk
  by_cases h : b.f0.f0 ≤ n ∧ n < b.f0.f1
  ·have hd : (decide (b.f0.f0 ≤ n) && decide (n < b.f0.f1)) = true := by simp [h]
   rw [if_pos hd, if_pos h]
   simp [rd_T99]
  ·have hd : ¬ (decide (b.f0.f0 ≤ n) && decide (n < b.f0.f1)) = true := by simp only [Bool.and_eq_true, decide_eq_true_eq]; exact h
   rw [if_neg hd, if_neg h, ← ih]
   by_cases h2 : findIx n l < 0
   ·simp [h2]
   ·simp only [if_neg h2]
    rw [if_neg (by omega)]
    unfold rd_T99
    rw [show (findIx n l + 1).toNat = (findIx n l).toNat + 1 by omega]
    rfl
theorem heldU_range {l : List UP} (hu : ∀ u ∈ l, okU u) (n : Int) : -1 ≤ heldU l n ∧ heldU l n ≤ 7 := by
 have : ∀ (l : List UP) (x : Int), (∀ u ∈ l, okU u) → -1 ≤ x → x ≤ 7 → -1 ≤ l.foldl (updH n) x ∧ l.foldl (updH n) x ≤ 7 := by
  intro l
  induction l with
  | nil => exact fun x _ h1 h2 => ⟨h1, h2⟩
  | cons u l ih =>
   intro x hu h1 h2
   obtain ⟨a, b, c⟩ := hu u (by simp)
   refine ih _ (fun y hy => hu y (by simp [hy])) ?_ ?_ <;> unfold updH <;> split <;> omega
 exact this l (-1) hu (by omega) (by omega)
end Go.Proofs.Ytlhhcjlcaacfpaa.B23
namespace Go.Proofs.Ytlhhcjlcaacfpaa.B23
open Go.RowKit Go.Proofs.Ytlhhcjlcaacfpaa.P Go.Proofs.Ytlhhcjlcaacfpaa.T24 Go.Proofs.YtlhhcjlcaacfpaaW.PrintWords Go.Proofs.YtlhhcjlcaacfpaaW.PrintLast Go.Proofs.YtlhhcjlcaacfpaaW.PrintMore Go.Proofs.YtlhhcjlcaacfpaaM
theorem w64_i64 (x : Int) : I64 (wrap64 x) := by unfold I64 wrap64; omega
theorem pick23 {c n : Int} (hc : I64 c) (hn : 0 < n) : ∃ r, dialtoneref23_pick.f c n = some r ∧ 0 ≤ r ∧ r < n := pick_tells c n hc hn
theorem pick13 {c n : Int} (hc : I64 c) (hn : 0 < n) : ∃ r, dialtoneref13_pick.f c n = some r ∧ 0 ≤ r ∧ r < n := pick_tells c n hc hn
theorem piece_tells {a b : Int} (ha : I64 a) (hb : I64 b) : ∃ r1 r2, dialtoneref13_Piece.f a b = some (r1, r2) ∧ 0 ≤ r1 ∧ r1 < r2 ∧ r2 ≤ 100000000 := by
 obtain ⟨t, ht, t0, t1⟩ := pick13 ha (n := 60) (by omega)
 obtain ⟨l, hl, l0, l1⟩ := pick13 hb (n := 60 - t) (by omega)
 obtain ⟨k, hk, k0, k1⟩ := pick13 ha (n := 8) (by omega)
 unfold dialtoneref13_Piece.f
 rw [ht]; simp only [ob]
 rw [hl]; simp only [ob]
 rw [hk]; simp only [ob]
 rw [if_pos (by omega)]
 by_cases h : k = 7
 ·rw [if_pos h]; exact ⟨_, _, rfl, by omega, by omega, by omega⟩
 ·rw [if_neg h]; exact ⟨_, _, rfl, by omega, by omega, by omega⟩
def lastT : Int → List UP → Int
 | t, [] => t
 | _, u :: l => lastT u.f2 l
theorem timesB_snoc : ∀ (l : List UP) (t : Int) (u : UP), timesB t l = true → lastT t l ≤ u.f2 → u.f2 ≤ 10000000 → -1 ≤ u.f1 → timesB t (l ++ [u]) = true ∧ lastT t (l ++ [u]) = u.f2
 | [], t, u, _, h2, h3, h4 => by
  simp only [lastT] at h2
  refine ⟨?_, rfl⟩
  simp only [List.nil_append, timesB, Bool.and_true, Bool.and_eq_true, decide_eq_true_eq, Bool.not_eq_true', decide_eq_false_iff_not]
  omega
 | a :: l, t, u, h1, h2, h3, h4 => by
  simp only [timesB, Bool.and_eq_true] at h1
  obtain ⟨x, y⟩ := timesB_snoc l a.f2 u h1.2 h2 h3 h4
  refine ⟨?_, y⟩
  simp only [List.cons_append, timesB, Bool.and_eq_true]
  exact ⟨h1.1, x⟩
structure UM (l : List UP) : Prop where
 len : l.length ≤ 14
 ok : ∀ u ∈ l, okU u
 times : timesB 0 l = true
theorem rd53_i64 {x : List S53} (hx : ∀ v ∈ x, I64 v.f0 ∧ I64 v.f1 ∧ I64 v.f2 ∧ I64 v.f3) (i : Int) : I64 (rd_T53 x i).f0 ∧ I64 (rd_T53 x i).f1 ∧ I64 (rd_T53 x i).f2 ∧ I64 (rd_T53 x i).f3 := by
 unfold rd_T53
 rw [List.getD_eq_getElem?_getD]
 cases h : x[i.toNat]? with
 | none => simp [I64, z53]
 | some v => exact hx v (List.mem_of_getElem? h)
theorem made_ev {x : List S53} (hx : ∀ v ∈ x, I64 v.f0 ∧ I64 v.f1 ∧ I64 v.f2 ∧ I64 v.f3) : ∃ l, Ev (fun k => dialtoneref23_Made.f k x) l ∧ UM l := by
 have key : ∀ (d : Nat) (l : List UP), l.length + d = 14 → (∀ u ∈ l, okU u) → timesB 0 l = true → 0 ≤ lastT 0 l → lastT 0 l ≤ 3 * l.length → ∃ l', Ev (fun k => dialtoneref23_Made.l0 k x l (lastT 0 l) l.length) l' ∧ UM l' := by
  intro d
  induction d with
  | zero =>
   intro l hd ho ht h0 h3
   refine ⟨l, Ev.step (fun k => ?_) (Ev.step (g := fun k => dialtoneref23_Made.j1 k x l (lastT 0 l) l.length false) (fun k => ?_) (Ev.now l)), by omega, ho, ht⟩
   ·simp only [dialtoneref23_Made.l0]
    rw [show decide ((l.length : Int) < 14) = false from decide_eq_false (by omega)]
    split <;> rfl
   ·simp only [dialtoneref23_Made.j1]
    rw [if_neg (by decide)]
  | succ d ih =>
   intro l hd ho ht h0 h3
   by_cases hlt : (l.length : Int) < x.length
   ·obtain ⟨i0, i1, i2, i3⟩ := rd53_i64 hx l.length
    obtain ⟨p, hp, p0, p1⟩ := pick23 i3 (n := 4) (by omega)
    obtain ⟨r1, r2, hr, q0, q1, q2⟩ := piece_tells i0 i1
    obtain ⟨c, hc, c0, c1⟩ := pick23 i2 (n := 5) (by omega)
    obtain ⟨t1, t2⟩ := timesB_snoc l 0 ⟨⟨r1, r2⟩, c - 1, lastT 0 l + p⟩ ht (by simp only; omega) (by simp only; omega) (by simp only; omega)
    obtain ⟨l', e1, e2⟩ := ih (l ++ [⟨⟨r1, r2⟩, c - 1, lastT 0 l + p⟩]) (by simp; omega) (fun u hu => by
     rcases List.mem_append.1 hu with hu | hu
     ·exact ho u hu
     ·obtain rfl : u = ⟨⟨r1, r2⟩, c - 1, lastT 0 l + p⟩ := by simpa using hu
      exact ⟨(rangeB_iff _).2 ⟨q0, q1, q2⟩, by simp only; omega, by simp only; omega⟩) t1 (by rw [t2]; simp only; omega) (by rw [t2]; simp; omega)
    refine ⟨l', Ev.step (fun k => ?_) (Ev.step (g := fun k => dialtoneref23_Made.j1 k x l (lastT 0 l) l.length true) (fun k => ?_) e1), e2⟩
    ·simp only [dialtoneref23_Made.l0]
     rw [if_pos hlt, show decide ((l.length : Int) < 14) = true from decide_eq_true (by omega)]
    ·simp only [dialtoneref23_Made.j1]
     rw [if_pos trivial, if_pos (by omega), if_pos hlt, hp]; simp only [ob]
     rw [hr]; simp only [ob]
     rw [hc]; simp only [ob]
     rw [if_pos (by omega), t2, w64 (x := c - 1) (by unfold I64; omega), w64 (x := lastT 0 l + p) (by unfold I64; omega), w64 (x := (l.length : Int) + 1) (by unfold I64; omega)]
     simp
   ·refine ⟨l, Ev.step (fun k => ?_) (Ev.step (g := fun k => dialtoneref23_Made.j1 k x l (lastT 0 l) l.length false) (fun k => ?_) (Ev.now l)), by omega, ho, ht⟩
    ·simp only [dialtoneref23_Made.l0]
     rw [if_neg hlt]
    ·simp only [dialtoneref23_Made.j1]
     rw [if_neg (by decide)]
 exact key 14 [] rfl (fun _ h => nomatch h) rfl (by simp [lastT]) (by simp [lastT])
theorem maps_all {l : List UP} (U : UM l) : ∃ xs, mapsE l = some xs ∧ xs.length = l.length + 1 ∧ ∀ i, i ≤ l.length → ∃ mi, xs[i]? = some ((i : Int), mi) ∧ mapB mi = true ∧ ∀ n, 0 ≤ n → n ≤ 99999999 → holdF mi n = heldU (l.take i) n := by
 have hlen : ∀ l : List UP, (l.flatMap fun u => [u.f0.f0, u.f0.f1]).length = 2 * l.length := fun l => by
  induction l with
  | nil => rfl
  | cons u l ih => rw [List.flatMap_cons, List.length_append, ih]; simp; omega
 have hU := U.len
 obtain ⟨xs, h1, h2, h3⟩ := mapsFrom_spec (L := 0 :: 100000000 :: l.flatMap fun u => [u.f0.f0, u.f0.f1]) (by simp) (by simp) (by simp only [List.length_cons, hlen]; omega) l 0 [] rfl (fun _ h => nomatch h)
  (fun u hu => ⟨U.ok u hu, by simp only [List.mem_cons, List.mem_flatMap]; exact .inr (.inr ⟨u, hu, by simp⟩), by simp only [List.mem_cons, List.mem_flatMap]; exact .inr (.inr ⟨u, hu, by simp⟩)⟩)
 refine ⟨xs, h1, h2, fun i hi => ?_⟩
 obtain ⟨mi, a, b, c⟩ := h3 i hi
 exact ⟨mi, by rw [a]; simp, b, fun n hn hn2 => by rw [c n hn hn2]; rfl⟩
theorem valid_eq {l : List UP} (U : UM l) : table_Valid.f l = some true := by
 obtain ⟨xs, h1, h2, h3⟩ := maps_all U
 have hU := U.len
 unfold table_Valid.f
 rw [if_neg (by omega), if_pos U.times, h1]
 simp only [ob]
 obtain ⟨m, hm, _⟩ := h3 l.length (Nat.le_refl _)
 have : lastV xs = (l.length : Int) := by
  unfold lastV
  rw [List.getLast?_eq_getElem?, h2, Nat.add_sub_cancel, hm]
 rw [this]
 simp
theorem get_eq {l : List UP} (U : UM l) {v : Nat} (hv : v ≤ l.length) : ∃ m, table_get.f l v = some (m, true) ∧ mapB m = true ∧ ∀ n, 0 ≤ n → n ≤ 99999999 → holdF m n = heldU (l.take v) n := by
 obtain ⟨xs, h1, h2, h3⟩ := maps_all U
 obtain ⟨m, hm, hb, hh⟩ := h3 v hv
 refine ⟨m, ?_, hb, hh⟩
 unfold table_get.f
 rw [valid_eq U]
 simp only [ob, if_true]
 rw [h1]
 simp only [ob]
 have hf : xs.find? (isV v) = some ((v : Int), m) := by
  refine find_at (i := v) (List.find?_eq_none.2 fun x hx => ?_) hm (by simp [isV])
  obtain ⟨j, hj⟩ := List.mem_iff_getElem?.1 hx
  rw [List.getElem?_take] at hj
  split at hj
  ·rename_i hjv
   obtain ⟨m2, hm2, _⟩ := h3 j (by omega)
   rw [hm2] at hj
   cases hj
   simp only [isV, beq_iff_eq]
   omega
  ·cases hj
 rw [hf]
theorem held_eq {l : List UP} (U : UM l) {v : Nat} (hv : v ≤ l.length) {n : Int} (h0 : 0 ≤ n) (h1 : n ≤ 99999999) : table_Held.f l n v = some (heldU (l.take v) n, 0) := by
 obtain ⟨m, hm, hb, hh⟩ := get_eq U hv
 unfold table_Held.f
 rw [hm]
 simp only [ob, if_true]
 rw [table_isIn.tells, show inT n 0 99999999 = true by simp [inT]; omega]
 simp only [ob, if_true]
 rw [table_holder.tells, hold_eq hb, hh n h0 h1]
 rfl
theorem between_eq {l : List UP} (U : UM l) {a b : Nat} (hab : a ≤ b) (hb : b ≤ l.length) {n : Int} (h0 : 0 ≤ n) (h1 : n ≤ 99999999) :
  ∃ r, table_Between.f l n a b = some (r, 0) ∧ r.length ≤ 9 ∧ (∀ x, x ∈ r ↔ ∃ v : Nat, a ≤ v ∧ v ≤ b ∧ x = heldU (l.take v) n) := by
 obtain ⟨xs, e1, e2, e3⟩ := maps_all U
 have hmem : ∀ c, c ∈ holdL n a b xs ↔ ∃ v : Nat, a ≤ v ∧ v ≤ b ∧ c = heldU (l.take v) n := fun c => by
  unfold holdL
  rw [List.mem_map]
  constructor
  ·rintro ⟨x, hx, rfl⟩
   obtain ⟨hx, hp⟩ := List.mem_filter.1 hx
   obtain ⟨j, hj⟩ := List.mem_iff_getElem?.1 hx
   have hjl : j < xs.length := by
    rcases Nat.lt_or_ge j xs.length with h | h
    ·exact h
    ·rw [List.getElem?_eq_none h] at hj; cases hj
   obtain ⟨m, hm, mb, mh⟩ := e3 j (by omega)
   rw [hm] at hj
   cases hj
   simp only [inT, Bool.and_eq_true, decide_eq_true_eq] at hp
   exact ⟨j, by omega, by omega, by simp only; rw [hold_eq mb, mh n h0 h1]⟩
  ·rintro ⟨v, v1, v2, rfl⟩
   obtain ⟨m, hm, mb, mh⟩ := e3 v (by omega)
   refine ⟨_, List.mem_filter.2 ⟨List.mem_of_getElem? hm, ?_⟩, ?_⟩
   ·simp only [inT, Bool.and_eq_true, decide_eq_true_eq]; omega
   ·simp only; rw [hold_eq mb, mh n h0 h1]
 have hrange : ∀ v : Nat, -1 ≤ heldU (l.take v) n ∧ heldU (l.take v) n ≤ 7 := fun v => heldU_range (fun u hu => U.ok u (List.mem_of_mem_take hu)) n
 refine ⟨canonL (holdL n a b xs), ?_, ?_, fun x => ?_⟩
 ·unfold table_Between.f
  rw [valid_eq U]
  simp only [ob, if_true]
  rw [if_pos (by simp [inT]; omega), if_pos (by simp [inT]; omega), if_neg (by omega), e1]
  simp only [ob]
  rw [if_pos]
  refine List.all_eq_true.2 fun c hc => ?_
  obtain ⟨v, _, _, rfl⟩ := (hmem c).1 hc
  have := hrange v
  simp only [inT, Bool.and_eq_true, decide_eq_true_eq]; omega
 ·unfold canonL
  exact Nat.le_trans (List.length_filter_le _ _) (by simp)
 ·rw [canonL_mem, hmem]
  constructor
  ·exact fun h => h.2
  ·rintro ⟨v, v1, v2, rfl⟩
   exact ⟨hrange v, v, v1, v2, rfl⟩
theorem bsF_spec {p : Nat → Bool} {N : Nat} (mono : ∀ x y, x ≤ y → y < N → p x = true → p y = true) : ∀ (k i j : Nat), i ≤ j → j ≤ N → j - i < k → (∀ x, x < i → p x = false) → (j < N → p j = true) →
  i ≤ bsF p k i j ∧ bsF p k i j ≤ j ∧ (∀ x, x < bsF p k i j → p x = false) ∧ (bsF p k i j < N → p (bsF p k i j) = true)
 | 0, i, j, h1, h2, h3, _, _ => by omega
 | k + 1, i, j, h1, h2, h3, h4, h5 => by
  unfold bsF
  by_cases h : i < j
  ·rw [if_pos h]
   by_cases hp : p ((i + j) / 2) = true
   ·rw [if_pos hp]
    obtain ⟨a, b, c, d⟩ := bsF_spec mono k i ((i + j) / 2) (by omega) (by omega) (by omega) h4 fun _ => hp
    exact ⟨a, by omega, c, d⟩
   ·rw [if_neg hp]
    obtain ⟨a, b, c, d⟩ := bsF_spec mono k ((i + j) / 2 + 1) j (by omega) h2 (by omega) (fun x hx => by
     cases hpx : p x with
     | false => rfl
     | true => exact absurd (mono x ((i + j) / 2) (by omega) (by omega) hpx) hp) h5
    exact ⟨by omega, b, c, d⟩
  ·rw [if_neg h]
   obtain rfl : i = j := by omega
   exact ⟨Nat.le_refl _, Nat.le_refl _, h4, h5⟩
theorem times_mono : ∀ (l : List UP) (t : Int), timesB t l = true → ∀ i j : Nat, i ≤ j → j < l.length → t ≤ (rd_T58 l (i : Int)).f2 ∧ (rd_T58 l (i : Int)).f2 ≤ (rd_T58 l (j : Int)).f2
 | [], _, _, _, j, _, hj => by cases hj
 | u :: l, t, h, i, j, hij, hj => by
  simp only [timesB, Bool.and_eq_true, decide_eq_true_eq] at h
  have r0 : rd_T58 (u :: l) ((0 : Nat) : Int) = u := rfl
  have rs : ∀ m : Nat, rd_T58 (u :: l) ((m + 1 : Nat) : Int) = rd_T58 l (m : Int) := fun m => rfl
  rcases i with _ | i
  ·rw [r0]
   rcases j with _ | j
   ·rw [r0]; omega
   ·have := times_mono l u.f2 h.2 j j (Nat.le_refl _) (by simpa using hj)
    rw [rs]; omega
  ·rcases j with _ | j
   ·omega
   ·have := times_mono l u.f2 h.2 i j (by omega) (by simpa using hj)
    rw [rs, rs]; omega
theorem at_eq {l : List UP} (U : UM l) (t : Int) : ∃ r : Nat, table_at.f l t = some (r : Int) ∧ r ≤ l.length ∧ (∀ x, x < r → (rd_T58 l (x : Int)).f2 ≤ t) ∧ (r < l.length → t < (rd_T58 l (r : Int)).f2) := by
 have hU := U.len
 unfold table_at.f
 rw [if_pos (by omega)]
 obtain ⟨a, b, c, d⟩ := bsF_spec (p := fun h => decide (t < (rd_T58 l (h : Int)).f2)) (N := l.length) (fun x y hxy hy hp => by
  have := times_mono l 0 U.times x y hxy hy
  simp only [decide_eq_true_eq] at hp ⊢
  omega) (l.length + 1) 0 l.length (by omega) (by omega) (by omega) (fun x hx => by omega) (fun h => by omega)
 refine ⟨_, rfl, b, fun x hx => ?_, fun h => ?_⟩
 ·have := c x hx
  simp only [decide_eq_false_iff_not] at this
  omega
 ·have := d h
  simpa using this
theorem known_ev {l : List UP} (U : UM l) {t d : Int} (t0 : 0 ≤ t) (t1 : t ≤ 10000000) (d0 : 0 ≤ d) (d1 : d ≤ 100000) : ∃ a b : Nat, Ev (fun k => table_Known.f k l t d) ((a : Int), (b : Int), 0) ∧ a ≤ b ∧ b ≤ l.length := by
 obtain ⟨a, ha, a1, a2, a3⟩ := at_eq U (t - d)
 obtain ⟨b, hb, b1, b2, b3⟩ := at_eq U t
 refine ⟨a, b, Ev.congr (fun k => ?_) (Ev.step (g := fun k => table_Known.j0 k l t d false) (fun k => ?_) (Ev.now _)), ?_, b1⟩
 ·unfold table_Known.f
  rw [table_isIn.tells, show inT t 0 10000000 = true by simp [inT]; omega]
  simp only [ob, if_true]
  rw [table_isIn.tells, show inT d 0 100000 = true by simp [inT]; omega]
  simp only [ob, if_true]
  rw [valid_eq U]
  rfl
 ·simp only [table_Known.j0]
  rw [if_neg (by decide), w64 (x := t - d) (by unfold I64; omega), ha]
  simp only [ob]
  rw [hb]
  rfl
 ·rcases Nat.lt_or_ge b a with h | h
  ·have := a2 b h
   have := b3 (by omega)
   omega
  ·exact h
theorem clamp (x : Int) : 0 ≤ mn (mx x 0) 99999999 ∧ mn (mx x 0) 99999999 ≤ 99999999 := by
 unfold mn mx
 split <;> split <;> omega
theorem tdiv_i64' {m n : Int} : I64 (wrap64 (Int.tdiv m n)) := w64_i64 _
theorem near_ev (l : List UP) {a b : Int} (ha : I64 a) (hb : I64 b) : ∃ n, Ev (fun k => dialtoneref23_Near.f k l a b) n ∧ 0 ≤ n ∧ n ≤ 99999999 := by
 have yes : ∃ n, Ev (fun k => dialtoneref23_Near.j0 k l a b true) n ∧ 0 ≤ n ∧ n ≤ 99999999 := by
  obtain ⟨r, hr, r0, r1⟩ := pick23 hb (n := 100000000) (by omega)
  refine ⟨r, Ev.step (fun k => ?_) (Ev.now r), r0, by omega⟩
  simp only [dialtoneref23_Near.j0]
  rw [if_pos trivial, hr]
  rfl
 by_cases h : (l.length : Int) = 0
 ·obtain ⟨n, hn, n0, n1⟩ := yes
  refine ⟨n, Ev.congr (fun k => ?_) hn, n0, n1⟩
  unfold dialtoneref23_Near.f
  rw [if_pos h]
 ·obtain ⟨r, hr, r0, r1⟩ := pick23 ha (n := 4) (by omega)
  by_cases h3 : r = 3
  ·obtain ⟨n, hn, n0, n1⟩ := yes
   refine ⟨n, Ev.congr (fun k => ?_) hn, n0, n1⟩
   unfold dialtoneref23_Near.f
   rw [if_neg h, hr]
   simp [h3]
  ·obtain ⟨i, hi, i0, i1⟩ := pick23 (tdiv_i64' (m := a) (n := 8)) (n := (l.length : Int)) (by omega)
   obtain ⟨q, hq, q0, q1⟩ := pick23 (tdiv_i64' (m := a) (n := 4)) (n := 2) (by omega)
   obtain ⟨t, ht, t0, t1⟩ := pick23 hb (n := 3) (by omega)
   have hcong : ∀ k, dialtoneref23_Near.f k l a b = dialtoneref23_Near.j0 k l a b false := fun k => by
    unfold dialtoneref23_Near.f
    rw [if_neg h, hr]
    simp only [ob]
    rw [show (r == 3) = false from by simpa using h3]
   by_cases hz : q = 0
   ·refine ⟨mn (mx (wrap64 (wrap64 ((rd_T58 l i).f0.f0 - 1) + t)) 0) 99999999, Ev.congr hcong (Ev.step (fun k => ?_) (Ev.now _)), (clamp _).1, (clamp _).2⟩
    ·simp only [dialtoneref23_Near.j0]
     rw [if_neg (by decide), hi]
     simp only [ob]
     rw [if_pos i0, if_pos i1, hq]
     simp only [ob]
     rw [if_pos hz, ht]
     rfl
   ·refine ⟨mn (mx (wrap64 (wrap64 ((rd_T58 l i).f0.f1 - 1) + t)) 0) 99999999, Ev.congr hcong (Ev.step (fun k => ?_) (Ev.now _)), (clamp _).1, (clamp _).2⟩
    ·simp only [dialtoneref23_Near.j0]
     rw [if_neg (by decide), hi]
     simp only [ob]
     rw [if_pos i0, if_pos i1, hq]
     simp only [ob]
     rw [if_neg hz, ht]
     rfl
end Go.Proofs.Ytlhhcjlcaacfpaa.B23
namespace Go.Proofs.Ytlhhcjlcaacfpaa.Pure
open Go.RowKit Go.Proofs.Ytlhhcjlcaacfpaa.P Go.Proofs.Ytlhhcjlcaacfpaa.T24 Go.Proofs.Ytlhhcjlcaacfpaa.B23 Go.Proofs.YtlhhcjlcaacfpaaW.PrintWords Go.Proofs.YtlhhcjlcaacfpaaW.PrintLast Go.Proofs.YtlhhcjlcaacfpaaW.PrintMore
def hist (l : List UP) (n : Int) (v : Nat) : List Int := (List.range v).map fun i => heldU (l.take i) n
theorem hist_len (l : List UP) (n : Int) (v : Nat) : (hist l n v).length = v := by simp [hist]
theorem hist_succ (l : List UP) (n : Int) (v : Nat) : hist l n (v + 1) = hist l n v ++ [heldU (l.take v) n] := by simp [hist, List.range_succ]
theorem rd_hist (l : List UP) (n : Int) (v i : Nat) (h : i < v) : rd (hist l n v) i = heldU (l.take i) n := by simp [rd, hist, h]
theorem seek {h r : List Int} {e c v : Int} {u : Nat} (hu : u < h.length) (hv : v = u) (hr : r.length ≤ 9)
  (E : (e = 1 ∧ rd h u = c ∧ 0 ≤ c) ∨ (e = 2 ∧ rd h u = -1) ∨ (e = 3 ∧ 0 ≤ rd h u)) :
  ∀ (d i : Nat) (ok : Bool), i + d = r.length → (ok = true ∨ rd h u ∈ r.drop i) → Ev (fun k => dialtonelaw24_RouteTables.l1 k h e r 0 ok i c v) true := by
 subst hv
 intro d
 induction d with
 | zero =>
  intro i ok hi ho
  have : ok = true := by
   rcases ho with h | h
   ·exact h
   ·rw [List.drop_eq_nil_of_le (by omega)] at h; cases h
  subst this
  refine Ev.step (fun k => ?_) (Ev.now true)
  simp only [dialtonelaw24_RouteTables.l1]
  rw [if_neg (by omega), if_pos trivial, if_pos trivial, if_pos (by omega), if_pos (by omega)]
  rcases E with ⟨rfl, h1, h2⟩ | ⟨rfl, h1⟩ | ⟨rfl, h1⟩
  ·have hm : rd h u ≠ -1 := by omega
   rw [h1]
   have : (c == -1) = false := by simp; omega
   simp [this]
  ·rw [h1]; simp
  ·have : (rd h u == -1) = false := by simp; omega
   simp [this]
 | succ d ih =>
  intro i ok hi ho
  have hw : wrap64 ((i : Int) + 1) = ((i + 1 : Nat) : Int) := by rw [w64 (by unfold I64; omega)]; omega
  cases hok : ok with
  | true =>
   refine Ev.step (fun k => ?_) (ih (i + 1) true (by omega) (.inl rfl))
   simp only [dialtonelaw24_RouteTables.l1]
   rw [if_pos (by omega), if_pos trivial, hw]
  | false =>
   subst hok
   have hd : r.drop i = rd r i :: r.drop (i + 1) := by
    rw [List.drop_eq_getElem_cons (by omega)]
    simp [rd, show i < r.length by omega]
   refine Ev.step (fun k => ?_) (ih (i + 1) (rd r i == rd h u) (by omega) ?_)
   ·simp only [dialtonelaw24_RouteTables.l1]
    rw [if_pos (by omega), if_neg (by decide), if_pos (by omega), if_pos (by omega), if_pos (by omega), hw]
   ·rcases ho with h | h
    ·cases h
    ·rw [hd] at h
     rcases List.mem_cons.1 h with h | h
     ·exact .inl (by rw [h]; simp)
     ·exact .inr h
theorem RouteTables : dialtonelaw24_RouteTables.Pure := by
 intro x a1 a2 a3 a4 y a6 hx1 hx2 h1 h2 h3 h4 hy1 hy2 hy h6
 apply Ev.rounds
 obtain ⟨l, hl, U⟩ := made_ev fun v hv => ⟨i64_of (hx2 v hv).1, i64_of (hx2 v hv).2.1, i64_of (hx2 v hv).2.2.1, i64_of (hx2 v hv).2.2.2⟩
 obtain ⟨n, hn, n0, n1⟩ := near_ev l (i64_of h1) (i64_of h2)
 obtain ⟨t, ht, t0, t1⟩ := pick_tells a3 60 (i64_of h3) (by omega)
 obtain ⟨g, hg, g0, g1⟩ := pick_tells a4 20 (i64_of h4) (by omega)
 obtain ⟨a, b, hk, hab, hbl⟩ := known_ev U (t := t) (d := g) t0 (by omega) g0 (by omega)
 obtain ⟨d, hd, d0, d8⟩ := pick_tells a6 8 (i64_of h6) (by omega)
 have hU := U.len
 unfold dialtonelaw24_RouteTables.f
 refine Ev.bind sane_ev ?_
 simp only [if_true]
 refine Ev.bind hl ?_
 refine Ev.bind hn ?_
 refine Ev.bind (ev_const ((lawpick_eq a3 60).trans ht)) ?_
 refine Ev.bind (ev_const ((lawpick_eq a4 20).trans hg)) ?_
 refine Ev.bind hk ?_
 simp only [if_true]
 refine Ev.congr (g := _) (f := fun k => dialtonelaw24_RouteTables.j0 k y a6 true l n a b false) (fun k => ?_) ?_
 ·rw [if_neg (by omega), if_neg (by omega), show decide ((b : Int) > (l.length : Int)) = false from decide_eq_false (by omega)]
 by_cases hlag : (b : Int) - a > 10
 ·refine Ev.step (fun k => ?_) (Ev.now true)
  simp only [dialtonelaw24_RouteTables.j0]
  rw [if_neg (by decide), w64 (x := (b : Int) - a) (by unfold I64; omega), if_pos hlag]
 refine Ev.step (f := fun k => dialtonelaw24_RouteTables.l0 k y a6 l n a b [] 0) (fun k => ?_) ?_
 ·simp only [dialtonelaw24_RouteTables.j0]
  rw [if_neg (by decide), w64 (x := (b : Int) - a) (by unfold I64; omega), if_neg hlag]
 have loop : ∀ (m v : Nat), v + m = b + 1 → Ev (fun k => dialtonelaw24_RouteTables.l0 k y a6 l n a b (hist l n v) v) true := by
  intro m
  induction m with
  | succ m ih =>
   intro v hv
   refine Ev.step (fun k => ?_) (ih (v + 1) (by omega))
   simp only [dialtonelaw24_RouteTables.l0]
   rw [if_pos (by omega), held_eq U (by omega) n0 n1]
   simp only [ob, if_true]
   rw [if_pos (by rw [hist_len]; omega), hist_succ, show wrap64 ((v : Int) + 1) = ((v + 1 : Nat) : Int) by rw [w64 (by unfold I64; omega)]; omega]
  | zero =>
   intro v hv
   obtain rfl : v = b + 1 := by omega
   have hh : ∀ i : Int, 0 ≤ i → i < (hist l n (b + 1)).length → -1 ≤ rd (hist l n (b + 1)) i ∧ rd (hist l n (b + 1)) i ≤ 7 := fun i i0 i1 => by
    rw [hist_len] at i1
    have := rd_hist l n (b + 1) i.toNat (by omega)
    rw [show ((i.toNat : Nat) : Int) = i by omega] at this
    rw [this]
    exact heldU_range (fun u hu => U.ok u (List.mem_of_mem_take hu)) n
   have hhl := hist_len l n (b + 1)
   obtain ⟨kn, hkn, H⟩ := known_valid (hist l n (b + 1)) y ((b : Int) - a) (by omega) (by omega) hh (by omega) (by omega) (fun v hv => i64_of (hy v hv))
   have hrd : ∀ u : Nat, u < b + 1 → rd (hist l n (b + 1)) u = heldU (l.take u) n := fun u hu => rd_hist l n (b + 1) u hu
   generalize hist l n (b + 1) = h at hhl hkn H hrd
   refine Ev.step (f := fun k => dialtonelaw24_RouteTables.l0 (k + 1) y a6 l n a b h ((b + 1 : Nat) : Int)) (fun _ => rfl) ?_
   have hle : ¬ (((b + 1 : Nat) : Int) ≤ (b : Int)) := by omega
   have hwl : wrap64 ((b : Int) - a) = (b : Int) - a := w64 (by unfold I64; omega)
   simp only [dialtonelaw24_RouteTables.l0, if_neg hle, hwl]
   refine Ev.bind hkn ?_
   refine Ev.bind (ev_const ((lawpick_eq a6 8).trans hd)) ?_
   by_cases hk : 0 ≤ rd kn d
   ·obtain ⟨p, e, s3, P⟩ := path_ev H d0 d8 hk
    have hs := P.short H d0 d8 hk
    have hne := P.ne
    have hz := P.all H d0 d8 hk (p.length - 1) (by omega)
    have e2 : wrap64 ((p.length : Int) - 1) = ((p.length - 1 : Nat) : Int) := by rw [w64 (by unfold I64; omega)]; omega
    have hlast := P.last
    refine Ev.bind s3 ?_
    simp only [e2]
    change Ev (fun k => if (0 : Int) = 0 then (if (p.length : Int) = 0 then none else if 0 ≤ ((p.length - 1 : Nat) : Int) then (if ((p.length - 1 : Nat) : Int) < p.length then (if (rdH p (p.length - 1)).f1 < (a : Int) then dialtonelaw24_RouteTables.j2 k l n a b h e true (rdH p (p.length - 1)).f0 (rdH p (p.length - 1)).f1 else dialtonelaw24_RouteTables.j2 k l n a b h e (decide ((rdH p (p.length - 1)).f1 > (b : Int))) (rdH p (p.length - 1)).f0 (rdH p (p.length - 1)).f1) else none) else none) else (if (0 : Int) = 240 then (if 0 ≤ d then (if d < (kn.length : Int) then some (rd kn d == (-1)) else none) else none) else none)) true
    generalize rdH p (p.length - 1) = z at hz hlast
    obtain ⟨z1, z2, z3, z4, z5, z6, z7⟩ := hz
    refine Ev.congr (f := fun k => dialtonelaw24_RouteTables.j2 k l n a b h e false z.f0 z.f1) (fun k => ?_) ?_
    ·rw [if_pos rfl, if_neg (by omega), if_pos (by omega), if_pos (by omega), if_neg (by omega), show decide (z.f1 > (b : Int)) = false from decide_eq_false (by omega)]
    obtain ⟨r, hr, hr9, hrm⟩ := between_eq U hab hbl n0 n1
    obtain ⟨u, hu⟩ : ∃ u : Nat, z.f1 = u := ⟨z.f1.toNat, by omega⟩
    have hL := seek (h := h) (r := r) (e := e) (c := z.f0) (v := z.f1) (u := u) (by omega) hu hr9 (by
     rcases hlast with ⟨rfl, h1⟩ | ⟨rfl, h1, h2⟩ | ⟨rfl, h1, h2, h3⟩
     ·exact .inl ⟨rfl, by rw [← hu]; exact h1, z1⟩
     ·exact .inr (.inl ⟨rfl, by rw [← hu]; exact h1⟩)
     ·exact .inr (.inr ⟨rfl, by rw [← hu]; exact h1⟩)) r.length 0 false (by omega) (.inr (by
      rw [List.drop_zero, hrm, hrd u (by omega)]
      exact ⟨u, by omega, by omega, rfl⟩))
    refine Ev.step (fun k => ?_) hL
    simp only [dialtonelaw24_RouteTables.j2]
    rw [if_neg (by decide), hr]
    rfl
   ·refine Ev.bind (path_down H d0 d8 hk) ?_
    have hkl := H.klen
    rcases H.known d d0 d8 with h1 | h1
    ·refine Ev.congr (fun k => ?_) (Ev.now true)
     simp only
     rw [if_neg (by decide), if_pos trivial, if_pos d0, if_pos (by omega), h1]
     rfl
    ·omega
 exact loop (b + 1) 0 (by omega)
end Go.Proofs.Ytlhhcjlcaacfpaa.Pure
