/- The plain law of routes: what a valid pair of holders and known versions gives for a path. The plain law of routes: what the reference's makers of inputs make is valid. The chapter's examples hold: evaluated. A learned path: afterwards the call takes at most two hops, and comes to the same version with the same end. The plain law of routes: the functions agree with the reference implementation, at all inputs. The plain law of routes: learning, deciding and blaming agree with the reference implementation. The plain law of routes: blaming agrees with the reference implementation; equality of lists. -/
import Derived.Test.YtmiahmpobpokmaaPx0
import Derived.Test.YtmiahmpobpokmaaPx3
import Derived.Test.YtmiahmpobpokmaaPx4
import Derived.Test.YtmiahmpobpokmaaPx6
import Derived.Test.YtmiahmpobpokmaaPx9
import Derived.Test.YtmiahmpobpokmaaPx13
import Derived.Test.YtmiahmpobpokmaaPx14
import Derived.Test.YtmiahmpobpokmaaPx15
import Derived.Test.YtmiahmpobpokmaaPx5
import Derived.Test.YtmiahmpobpokmaaPx12
import Derived.Test.YtmiahmpobpokmaaPx8
import Derived.Test.YtmiahmpobpokmaaPx16
import Derived.Test.YtmiahmpobpokmaaPx17
import Derived.Test.YtmiahmpobpokmaaPx18
import Derived.Test.YtmiahmpobpokmaaPx19
import Derived.Test.YtmiahmpobpokmaaPx20
import Derived.Test.YtmiahmpobpokmaaPx21
import Derived.Test.YtmiahmpobpokmaaPx7
import Derived.Test.YtmiahmpobpokmaaPx10
import Derived.Test.YtmiahmpobpokmaaPx11
import Derived.Test.YtmiahmpobpokmaaPx22
namespace Go.Proofs.Ytmiahmpobpokmaa.T24
open Go.RowKit Go.Proofs.Ytmiahmpobpokmaa.P Go.Proofs.YtmiahmpobpokmaaW.PrintWords Go.Proofs.YtmiahmpobpokmaaW.PrintLast Go.Proofs.YtmiahmpobpokmaaW.PrintMore
set_option linter.unusedVariables false

abbrev HP := S40
def rdH (l : List HP) (i : Nat) : HP := rd_T40 l i
theorem rdH_eq (l : List HP) (i : Nat) (h : i < l.length) : rdH l i = l[i] := by simp [rdH, rd_T40, h]
theorem mx_le (a b : Int) : a ≤ mx a b ∧ b ≤ mx a b ∧ (mx a b = a ∨ mx a b = b) := by unfold mx; split <;> omega

theorem ev_const {α : Type} {a : Option α} {r : α} (h : a = some r) : Ev (fun _ => a) r := ⟨0, fun _ _ => h⟩

/-- Holders and known versions are valid for a lag. -/
structure VK (h k : List Int) (lag : Int) : Prop where
  len1 : 1 ≤ h.length
  len2 : h.length ≤ 30
  hold : ∀ i : Int, 0 ≤ i → i < h.length → -1 ≤ rd h i ∧ rd h i ≤ 7
  klen : k.length = 8
  lag0 : 0 ≤ lag
  lag1 : lag ≤ 10
  known : ∀ c : Int, 0 ≤ c → c < 8 → rd k c = -1 ∨ (0 ≤ rd k c ∧ (h.length : Int) - 1 - lag ≤ rd k c ∧ rd k c < h.length ∧ ∀ u : Int, 1 ≤ u → u < h.length → rd h u ≠ rd h (u - 1) → (rd h u = c ∨ rd h (u - 1) = c) → u ≤ rd k c)

theorem leastOK_iff (h : List Int) (c v : Int) : leastOK h c v = true ↔ ∀ u : Int, 1 ≤ u → u < h.length → rd h u ≠ rd h (u - 1) → (rd h u = c ∨ rd h (u - 1) = c) → u ≤ v := by
  unfold leastOK
  rw [List.all_eq_true]
  constructor
  · intro H u h1 h2 hne hor
    have := H u.toNat (List.mem_range.mpr (by omega))
    rw [show ((u.toNat : Nat) : Int) = u by omega] at this
    simp only [Bool.or_eq_true, decide_eq_true_eq, beq_iff_eq, Bool.not_eq_true', Bool.or_eq_false_iff, beq_eq_false_iff_ne] at this
    rcases this with ((h3 | h3) | h3) | h3
    · omega
    · exact absurd h3 hne
    · rcases hor with ho | ho
      · exact absurd ho h3.1
      · exact absurd ho h3.2
    · exact h3
  · intro H u hu
    rw [List.mem_range] at hu
    simp only [Bool.or_eq_true, decide_eq_true_eq, beq_iff_eq, Bool.not_eq_true', Bool.or_eq_false_iff, beq_eq_false_iff_ne]
    by_cases h0 : u = 0
    · exact .inl (.inl (.inl h0))
    · by_cases h1 : rd h u = rd h ((u : Int) - 1)
      · exact .inl (.inl (.inr h1))
      · by_cases h2 : rd h u = c ∨ rd h ((u : Int) - 1) = c
        · exact .inr (H u (by omega) (by omega) h1 h2)
        · exact .inl (.inr ⟨fun h3 => h2 (.inl h3), fun h3 => h2 (.inr h3)⟩)

theorem valid_iff (h k : List Int) (lag : Int) : validB h k lag = true ↔ VK h k lag := by
  constructor
  · intro H
    simp only [validB, Bool.and_eq_true, List.all_eq_true, decide_eq_true_eq, List.mem_range] at H
    obtain ⟨⟨⟨h1, h2⟩, h3⟩, h4⟩ := H
    have hh : 1 ≤ h.length ∧ h.length ≤ 30 := by simp [holdersB, inB] at h1; omega
    simp only [inB, Bool.and_eq_true, decide_eq_true_eq] at h3
    refine ⟨hh.1, hh.2, fun i a b => holdersB.at h1 i a b, h2, h3.1, h3.2, fun c c0 c8 => ?_⟩
    have := h4 c.toNat (by omega)
    simp only [okKnown, Bool.or_eq_true, beq_iff_eq, Bool.and_eq_true, decide_eq_true_eq] at this
    rw [show ((c.toNat : Nat) : Int) = c by omega] at this
    rcases this with h5 | ⟨⟨⟨h5, h6⟩, h7⟩, h8⟩
    · exact .inl h5
    · exact .inr ⟨h5, h6, h8, (leastOK_iff _ _ _).mp h7⟩
  · intro H
    simp only [validB, Bool.and_eq_true, List.all_eq_true, decide_eq_true_eq, List.mem_range]
    refine ⟨⟨⟨?_, H.klen⟩, ?_⟩, fun c hc => ?_⟩
    · simp only [holdersB, inB, Bool.and_eq_true, List.all_eq_true, decide_eq_true_eq]
      refine ⟨⟨by have := H.len1; omega, by have := H.len2; omega⟩, fun x hx => ?_⟩
      obtain ⟨i, hi, rfl⟩ := List.getElem_of_mem hx
      have := H.hold i (by omega) (by omega)
      simpa [rd, hi] using this
    · simp only [inB, Bool.and_eq_true, decide_eq_true_eq]; exact ⟨H.lag0, H.lag1⟩
    · simp only [okKnown, Bool.or_eq_true, beq_iff_eq, Bool.and_eq_true, decide_eq_true_eq]
      rcases H.known c (by omega) (by omega) with h5 | ⟨h5, h6, h7, h8⟩
      · exact .inl h5
      · exact .inr ⟨⟨⟨h5, h6⟩, (leastOK_iff _ _ _).mpr h8⟩, h7⟩

/-- How a call ends at its last hop. -/
def EndAt (h k : List Int) (z : HP) (e : Int) : Prop :=
  (e = 1 ∧ rd h z.f1 = z.f0) ∨ (e = 2 ∧ rd h z.f1 = -1 ∧ rd h z.f1 ≠ z.f0) ∨ (e = 3 ∧ 0 ≤ rd h z.f1 ∧ rd h z.f1 ≠ z.f0 ∧ rd k (rd h z.f1) = -1)
/-- A path: each hop follows from the one before it. -/
structure Path (h k : List Int) (c u : Int) (l : List HP) (e : Int) : Prop where
  ne : 0 < l.length
  first : rdH l 0 = ⟨c, mx (rd k c) u⟩
  next : ∀ i : Nat, i + 1 < l.length → rd h (rdH l i).f1 ≠ (rdH l i).f0 ∧ 0 ≤ rd h (rdH l i).f1 ∧ 0 ≤ rd k (rd h (rdH l i).f1) ∧
    rdH l (i + 1) = ⟨rd h (rdH l i).f1, mx (rd k (rd h (rdH l i).f1)) (rdH l i).f1⟩
  last : EndAt h k (rdH l (l.length - 1)) e

theorem rdH_cons_succ (x : HP) (l : List HP) (i : Nat) : rdH (x :: l) (i + 1) = rdH l i := by
  unfold rdH rd_T40
  simp only [Int.toNat_natCast, List.getD_cons_succ]
theorem rdH_cons_zero (x : HP) (l : List HP) : rdH (x :: l) 0 = x := by simp [rdH, rd_T40]

theorem decide_tells {h k : List Int} {lag : Int} (H : VK h k lag) (c u : Int) (c0 : 0 ≤ c) (c8 : c < 8) (hk : 0 ≤ rd k c) (u0 : -1 ≤ u) (u1 : u < h.length) :
    0 ≤ mx (rd k c) u ∧ mx (rd k c) u < h.length ∧
    ((∃ e : Int, e ≠ 0 ∧ route_decide.f h k c u = some (mx (rd k c) u, -1, e) ∧ EndAt h k ⟨c, mx (rd k c) u⟩ e) ∨
     (route_decide.f h k c u = some (mx (rd k c) u, rd h (mx (rd k c) u), 0) ∧ rd h (mx (rd k c) u) ≠ c ∧ 0 ≤ rd h (mx (rd k c) u) ∧ rd h (mx (rd k c) u) < 8 ∧ 0 ≤ rd k (rd h (mx (rd k c) u)))) := by
  have hkn := H.known c c0 c8
  have hm := mx_le (rd k c) u
  have hw0 : 0 ≤ mx (rd k c) u := by omega
  have hw1 : mx (rd k c) u < h.length := by rcases hm.2.2 with e | e <;> rw [e] <;> omega
  refine ⟨hw0, hw1, ?_⟩
  have hl := H.klen
  have hold := H.hold (mx (rd k c) u) hw0 hw1
  generalize hw : mx (rd k c) u = w at *
  unfold route_decide.f
  rw [hw, if_pos c0, if_pos (by omega), if_pos hw0, if_pos hw1]
  by_cases h1 : rd h w = c
  · rw [if_pos h1]; exact .inl ⟨1, by decide, rfl, .inl ⟨rfl, h1⟩⟩
  · rw [if_neg h1]
    by_cases h2 : rd h w < 0
    · rw [if_pos h2]; exact .inl ⟨2, by decide, rfl, .inr (.inl ⟨rfl, by show rd h w = -1; omega, h1⟩)⟩
    · rw [if_neg h2, if_pos (by omega), if_pos (by omega)]
      have hkn2 := H.known (rd h w) (by omega) (by omega)
      by_cases h3 : rd k (rd h w) < 0
      · rw [if_pos h3]; exact .inl ⟨3, by decide, rfl, .inr (.inr ⟨rfl, by show 0 ≤ rd h w; omega, h1, by show rd k (rd h w) = -1; omega⟩)⟩
      · rw [if_neg h3]; exact .inr ⟨rfl, h1, by omega, by omega, by omega⟩

theorem path_tells {h k : List Int} {lag : Int} (H : VK h k lag) : ∀ (m : Nat) (c u : Int), 0 ≤ c → c < 8 → 0 ≤ rd k c → -1 ≤ u → u < h.length → (u = -1 ∨ 0 ≤ u) →
    (2 * ((h.length : Int) - u) + (if rd h u = c ∧ 0 ≤ u then 0 else 1)).toNat ≤ m → ∃ xs, hopsE (m + 1) h k c u = some xs ∧ Path h k c u (xs.map Prod.fst) (lastEnd xs) := by
  intro m
  induction m with
  | zero =>
    intro c u c0 c8 hk u0 u1 _ hm
    exfalso
    split at hm <;> omega
  | succ m ih =>
    intro c u c0 c8 hk u0 u1 uu hm
    obtain ⟨w0, w1, ht⟩ := decide_tells H c u c0 c8 hk u0 u1
    have hmx := mx_le (rd k c) u
    generalize hw : mx (rd k c) u = w at *
    rcases ht with ⟨e, he, hd, hend⟩ | ⟨hd, hne, hn0, hn8, hkn⟩
    · refine ⟨[(⟨c, w⟩, e)], ?_, by simp, ?_, ?_, ?_⟩
      · unfold hopsE
        rw [hd]
        simp only [Option.bind_some]
        rw [if_neg he]
      · simp [rdH_cons_zero, hw]
      · intro i hi; simp at hi
      · simpa [rdH_cons_zero, lastEnd] using hend
    · obtain ⟨xs, hxs, hp⟩ := ih (rd h w) w hn0 hn8 hkn (by omega) w1 (.inr w0) (by
        rw [if_pos ⟨rfl, w0⟩]
        by_cases hwu : w = u
        · subst hwu
          rw [if_neg (fun hx => hne hx.1)] at hm
          omega
        · split at hm <;> omega)
      refine ⟨(⟨c, w⟩, 0) :: xs, ?_, by simp, ?_, ?_, ?_⟩
      · rw [hopsE, hd]
        simp only [Option.bind_some, if_true]
        rw [hxs]
        rfl
      · simp [rdH_cons_zero, hw]
      · intro i hi
        simp only [List.map_cons, List.length_cons] at hi ⊢
        cases i with
        | zero =>
          rw [rdH_cons_zero, rdH_cons_succ]
          exact ⟨hne, hn0, hkn, hp.first⟩
        | succ i =>
          rw [rdH_cons_succ, rdH_cons_succ]
          exact hp.next i (by omega)
      · have hpl := hp.ne
        have hle : lastEnd ((⟨c, w⟩, 0) :: xs) = lastEnd xs := by
          cases xs with
          | nil => simp at hpl
          | cons y ys => simp [lastEnd]
        rw [hle]
        simp only [List.map_cons, List.length_cons]
        have : (xs.map Prod.fst).length = (xs.map Prod.fst).length - 1 + 1 := by omega
        rw [Nat.add_sub_cancel, this, rdH_cons_succ]
        exact hp.last
/-- What holds of every hop of a path that begins with no version. -/
theorem Path.all {h k : List Int} {lag c e : Int} {l : List HP} (H : VK h k lag) (c0 : 0 ≤ c) (c8 : c < 8) (hk : 0 ≤ rd k c) (P : Path h k c (-1) l e) :
    ∀ i : Nat, i < l.length → 0 ≤ (rdH l i).f0 ∧ (rdH l i).f0 < 8 ∧ 0 ≤ rd k (rdH l i).f0 ∧ rd k (rdH l i).f0 ≤ (rdH l i).f1 ∧ 0 ≤ (rdH l i).f1 ∧ (rdH l i).f1 < h.length ∧ (h.length : Int) - 1 - lag ≤ (rdH l i).f1 := by
  intro i
  induction i with
  | zero =>
    intro _
    rw [P.first]
    have hkn := H.known c c0 c8
    have hm := mx_le (rd k c) (-1)
    refine ⟨c0, c8, hk, hm.1, by simp only; omega, by simp only; rcases hm.2.2 with e | e <;> rw [e] <;> omega, by simp only; omega⟩
  | succ i ih =>
    intro hi
    obtain ⟨a0, a1, a2, a3, a4, a5, a6⟩ := ih (by omega)
    obtain ⟨n1, n2, n3, n4⟩ := P.next i hi
    rw [n4]
    have hh := H.hold _ a4 a5
    have hkn := H.known (rd h (rdH l i).f1) n2 (by omega)
    have hm := mx_le (rd k (rd h (rdH l i).f1)) (rdH l i).f1
    refine ⟨n2, by simp only; omega, n3, hm.1, by simp only; omega, by simp only; rcases hm.2.2 with e | e <;> rw [e] <;> omega, by simp only; omega⟩
/-- The versions ascend, strictly but for the last two. -/
theorem Path.ascend {h k : List Int} {c e : Int} {l : List HP} (P : Path h k c (-1) l e) (i : Nat) (hi : i + 1 < l.length) :
    (rdH l i).f1 ≤ (rdH l (i + 1)).f1 ∧ (i + 2 < l.length → (rdH l i).f1 < (rdH l (i + 1)).f1) := by
  obtain ⟨n1, n2, n3, n4⟩ := P.next i hi
  have hm := mx_le (rd k (rd h (rdH l i).f1)) (rdH l i).f1
  have e0 : (rdH l (i + 1)).f0 = rd h (rdH l i).f1 := by rw [n4]
  have e1 : (rdH l (i + 1)).f1 = mx (rd k (rd h (rdH l i).f1)) (rdH l i).f1 := by rw [n4]
  refine ⟨by rw [e1]; exact hm.2.1, fun h2 => ?_⟩
  obtain ⟨m1, _⟩ := P.next (i + 1) h2
  rw [e0] at m1
  rcases Int.lt_or_eq_of_le (show (rdH l i).f1 ≤ (rdH l (i + 1)).f1 by rw [e1]; exact hm.2.1) with hlt | heq
  · exact hlt
  · rw [← heq] at m1
    exact absurd rfl m1
theorem Path.mono {h k : List Int} {c e : Int} {l : List HP} (P : Path h k c (-1) l e) (i : Nat) : ∀ d : Nat, i + d < l.length → (rdH l i).f1 ≤ (rdH l (i + d)).f1 := by
  intro d
  induction d with
  | zero => intro _; exact Int.le_refl _
  | succ d ih =>
    intro hd
    have := ih (by omega)
    have h2 := (P.ascend (i + d) (by omega)).1
    rw [show i + (d + 1) = i + d + 1 by omega]
    omega
theorem Path.low {h k : List Int} {lag c e : Int} {l : List HP} (H : VK h k lag) (c0 : 0 ≤ c) (c8 : c < 8) (hk : 0 ≤ rd k c) (P : Path h k c (-1) l e) :
    ∀ i : Nat, i + 1 < l.length → (h.length : Int) - 1 - lag + i ≤ (rdH l i).f1 := by
  intro i
  induction i with
  | zero => intro hi; have := (P.all H c0 c8 hk 0 (by omega)).2.2.2.2.2.2; omega
  | succ i ih =>
    intro hi
    have h1 := ih (by omega)
    have h2 := (P.ascend i (by omega)).2 hi
    omega
theorem Path.short {h k : List Int} {lag c e : Int} {l : List HP} (H : VK h k lag) (c0 : 0 ≤ c) (c8 : c < 8) (hk : 0 ≤ rd k c) (P : Path h k c (-1) l e) : (l.length : Int) ≤ lag + 2 := by
  have hl0 := H.lag0
  by_cases hl : l.length ≤ 1
  · omega
  · have h1 := P.low H c0 c8 hk (l.length - 2) (by omega)
    have h2 := (P.all H c0 c8 hk (l.length - 2) (by omega)).2.2.2.2.2.1
    omega
/-- Between two versions at which a number is held differently it changes hands. -/
theorem change {h : List Int} {c : Int} : ∀ (d : Nat) (a : Int), rd h a ≠ c → rd h (a + d) = c → ∃ v : Int, a < v ∧ v ≤ a + d ∧ rd h v = c ∧ rd h (v - 1) ≠ c := by
  intro d
  induction d with
  | zero => intro a h1 h2; rw [show a + ((0 : Nat) : Int) = a by omega] at h2; exact absurd h2 h1
  | succ d ih =>
    intro a h1 h2
    by_cases h3 : rd h (a + d) = c
    · obtain ⟨v, v1, v2, v3, v4⟩ := ih a h1 h3
      exact ⟨v, v1, by omega, v3, v4⟩
    · exact ⟨a + (d + 1 : Nat), by omega, by omega, h2, by rw [show a + ((d + 1 : Nat) : Int) - 1 = a + d by omega]; exact h3⟩
theorem Path.apart {h k : List Int} {lag c e : Int} {l : List HP} (H : VK h k lag) (c0 : 0 ≤ c) (c8 : c < 8) (hk : 0 ≤ rd k c) (P : Path h k c (-1) l e) (i j : Nat) (hij : i < j) (hj : j < l.length) :
    (rdH l i).f0 ≠ (rdH l j).f0 := by
  intro he
  obtain ⟨p, rfl⟩ : ∃ p, j = p + 1 := ⟨j - 1, by omega⟩
  obtain ⟨n1, n2, n3, n4⟩ := P.next p hj
  obtain ⟨a0, a1, a2, a3, a4, a5, a6⟩ := P.all H c0 c8 hk i (by omega)
  have hb := P.all H c0 c8 hk p (by omega)
  have e0 : (rdH l (p + 1)).f0 = rd h (rdH l p).f1 := by rw [n4]
  rw [e0] at he
  have hm := P.mono i (p - i) (by omega)
  rw [show i + (p - i) = p by omega] at hm
  have hi1 := (P.next i (by omega)).1
  obtain ⟨v, v1, v2, v3, v4⟩ := change (h := h) (c := (rdH l i).f0) ((rdH l p).f1 - (rdH l i).f1).toNat (rdH l i).f1 hi1 (by rw [show (rdH l i).f1 + ((((rdH l p).f1 - (rdH l i).f1).toNat : Nat) : Int) = (rdH l p).f1 by omega]; exact he.symm)
  rcases H.known _ a0 a1 with h1 | ⟨_, _, _, h4⟩
  · omega
  · have := h4 v (by omega) (by omega) (by rw [v3]; exact fun h => v4 h.symm) (.inl v3)
    omega
end Go.Proofs.Ytmiahmpobpokmaa.T24
namespace Go.Proofs.Ytmiahmpobpokmaa.T24
open Go.RowKit Go.Proofs.Ytmiahmpobpokmaa.P Go.Proofs.YtmiahmpobpokmaaW.PrintWords Go.Proofs.YtmiahmpobpokmaaW.PrintLast Go.Proofs.YtmiahmpobpokmaaW.PrintMore
set_option linter.unusedVariables false

def I64 (x : Int) : Prop := -9223372036854775808 ≤ x ∧ x ≤ 9223372036854775807
theorem i64_of {x : Int} (h : (Lit.int .i64 x).wf = true) : I64 x := by
  simp only [Lit.wf, IntKind.min, IntKind.max, IntKind.signed, IntKind.bits, Bool.and_eq_true, decide_eq_true_eq, if_true] at h
  unfold I64
  omega
theorem w64 {x : Int} (h : I64 x) : wrap64 x = x := by unfold wrap64; unfold I64 at h; omega
theorem tmod_tells {a n : Int} (ha : 0 ≤ a) (hn : 0 < n) : 0 ≤ Int.tmod a n ∧ Int.tmod a n < n := by
  rw [Int.tmod_eq_emod_of_nonneg ha]
  exact ⟨Int.emod_nonneg _ (by omega), Int.emod_lt_of_pos _ hn⟩
theorem tdiv_i64 {m : Int} (h : I64 m) : I64 (Int.tdiv m 16) := by
  unfold I64 at *
  rcases Int.le_total 0 m with h0 | h0
  · rw [Int.tdiv_eq_ediv_of_nonneg h0]; omega
  · obtain ⟨a, rfl⟩ : ∃ a, m = -a := ⟨-m, by omega⟩
    rw [Int.neg_tdiv, Int.tdiv_eq_ediv_of_nonneg (by omega)]; omega
theorem pick_tells (c n : Int) (hc : I64 c) (hn : 0 < n) : ∃ r, dialtoneref24_pick.f c n = some r ∧ 0 ≤ r ∧ r < n := by
  unfold dialtoneref24_pick.f
  by_cases h : c < 0
  · rw [if_pos h, if_neg (by omega)]
    rw [w64 (x := c + 1) (by unfold I64 at *; omega), w64 (by unfold I64 at *; omega)]
    exact ⟨_, rfl, tmod_tells (by omega) hn⟩
  · rw [if_neg h, if_neg (by omega)]
    exact ⟨_, rfl, tmod_tells (by omega) hn⟩
theorem lawpick_eq (c n : Int) : dialtonelaw24_pick.f c n = dialtoneref24_pick.f c n := rfl

/-- From r on a carrier's version is valid. -/
def From (h : List Int) (lag c r : Int) : Prop :=
  0 ≤ r ∧ r < h.length ∧ (h.length : Int) - 1 - lag ≤ r ∧ ∀ u : Int, 1 ≤ u → u < h.length → rd h u ≠ rd h (u - 1) → (rd h u = c ∨ rd h (u - 1) = c) → u ≤ r
theorem least_tells (h : List Int) (lag c : Int) (h1 : 1 ≤ h.length) (h2 : h.length ≤ 30) (l0 : 0 ≤ lag) (l1 : lag ≤ 10) : ∃ r, Ev (fun k => dialtoneref24_Least.f k h lag c) r ∧ From h lag c r := by
  have hN : wrap64 ((h.length : Int) - 1) = (h.length : Int) - 1 := w64 (by unfold I64; omega)
  have hL : wrap64 (wrap64 ((h.length : Int) - 1) - lag) = (h.length : Int) - 1 - lag := by rw [hN]; exact w64 (by unfold I64; omega)
  have key : ∀ (d : Nat) (v x : Int), 1 ≤ v → v ≤ h.length → (h.length : Int) - v = d → 0 ≤ x → x < h.length → (h.length : Int) - 1 - lag ≤ x →
      (∀ u : Int, 1 ≤ u → u < v → rd h u ≠ rd h (u - 1) → (rd h u = c ∨ rd h (u - 1) = c) → u ≤ x) →
      ∃ r, Ev (fun k => dialtoneref24_Least.l0 k h c ((h.length : Int) - 1) x v) r ∧ From h lag c r := by
    intro d
    induction d with
    | zero =>
      intro v x v1 v2 hd x0 x1 x2 hx
      refine ⟨x, Ev.step (f := fun _ => some x) (fun k => ?_) (Ev.now _), x0, x1, x2, fun u a b => hx u a (by omega)⟩
      simp only [dialtoneref24_Least.l0]
      rw [if_neg (by omega)]
    | succ d ih =>
      intro v x v1 v2 hd x0 x1 x2 hx
      have hw1 : wrap64 (v - 1) = v - 1 := w64 (by unfold I64; omega)
      have hw2 : wrap64 (v + 1) = v + 1 := w64 (by unfold I64; omega)
      have hmx := mx_le x v
      by_cases e1 : rd h v = rd h (v - 1)
      · obtain ⟨r, hr, hf⟩ := ih (v + 1) x (by omega) (by omega) (by omega) x0 x1 x2 (fun u a b hne hor => by
          by_cases hu : u = v
          · subst hu; exact absurd e1 hne
          · exact hx u a (by omega) hne hor)
        refine ⟨r, Ev.step (fun k => ?_) hr, hf⟩
        simp only [dialtoneref24_Least.l0]
        rw [if_pos (by omega), if_pos (by omega), if_pos (by omega), hw1, hw2, if_pos (by omega), if_pos (by omega), if_pos e1]
      · have hy : ∃ r, Ev (fun k => dialtoneref24_Least.l0 k h c ((h.length : Int) - 1) (mx x v) (v + 1)) r ∧ From h lag c r :=
          ih (v + 1) (mx x v) (by omega) (by omega) (by omega) (by omega) (by rcases hmx.2.2 with e | e <;> rw [e] <;> omega) (by omega) (fun u a b hne hor => by
            by_cases hu : u = v
            · subst hu; exact hmx.2.1
            · exact Int.le_trans (hx u a (by omega) hne hor) hmx.1)
        by_cases e2 : rd h v = c
        · obtain ⟨r, hr, hf⟩ := hy
          refine ⟨r, Ev.step (fun k => ?_) hr, hf⟩
          simp only [dialtoneref24_Least.l0]
          rw [if_pos (by omega), if_pos (by omega), if_pos (by omega), hw1, hw2, if_pos (by omega), if_pos (by omega), if_neg e1, if_pos e2]
        · by_cases e3 : rd h (v - 1) = c
          · obtain ⟨r, hr, hf⟩ := hy
            refine ⟨r, Ev.step (fun k => ?_) hr, hf⟩
            simp only [dialtoneref24_Least.l0]
            rw [if_pos (by omega), if_pos (by omega), if_pos (by omega), hw1, hw2, if_pos (by omega), if_pos (by omega), if_neg e1, if_neg e2, if_pos e3]
          · obtain ⟨r, hr, hf⟩ := ih (v + 1) x (by omega) (by omega) (by omega) x0 x1 x2 (fun u a b hne hor => by
              by_cases hu : u = v
              · subst hu; rcases hor with ho | ho
                · exact absurd ho e2
                · exact absurd ho e3
              · exact hx u a (by omega) hne hor)
            refine ⟨r, Ev.step (fun k => ?_) hr, hf⟩
            simp only [dialtoneref24_Least.l0]
            rw [if_pos (by omega), if_pos (by omega), if_pos (by omega), hw1, hw2, if_pos (by omega), if_pos (by omega), if_neg e1, if_neg e2, if_neg e3]
  have hm := mx_le 0 ((h.length : Int) - 1 - lag)
  obtain ⟨r, hr, hf⟩ := key (h.length - 1) 1 (mx 0 ((h.length : Int) - 1 - lag)) (by omega) (by omega) (by omega) hm.1 (by rcases hm.2.2 with e | e <;> rw [e] <;> omega) hm.2.1 (fun u a b => by omega)
  refine ⟨r, Ev.congr (fun k => ?_) hr, hf⟩
  unfold dialtoneref24_Least.f
  rw [hL, hN]

theorem rd_append_lt (xs ys : List Int) (i : Nat) (h : i < xs.length) : rd (xs ++ ys) i = rd xs i := by simp [rd, List.getElem?_append_left, h]
theorem rd_append_eq (xs : List Int) (y : Int) : rd (xs ++ [y]) xs.length = y := by simp [rd]
theorem rd_i64 {y : List Int} (hy : ∀ x ∈ y, I64 x) (i : Int) : I64 (rd y i) := by
  unfold rd
  rw [List.getD_eq_getElem?_getD]
  cases h : y[i.toNat]? with
  | none => simp [I64]
  | some v => exact hy v (List.mem_of_getElem? h)

theorem known_tells (h y : List Int) (lag : Int) (h1 : 1 ≤ h.length) (h2 : h.length ≤ 30) (l0 : 0 ≤ lag) (l1 : lag ≤ 10) (hy : ∀ x ∈ y, I64 x) :
    ∃ kn, Ev (fun k => dialtoneref24_Known.f k h lag y) kn ∧ kn.length = 8 ∧ ∀ c : Nat, c < 8 → rd kn c = -1 ∨ From h lag c (rd kn c) := by
  have key : ∀ (d : Nat) (xs : List Int), xs.length + d = 8 → (∀ c : Nat, c < xs.length → rd xs c = -1 ∨ From h lag c (rd xs c)) →
      ∃ kn, Ev (fun k => dialtoneref24_Known.l0 k h lag y xs xs.length) kn ∧ kn.length = 8 ∧ ∀ c : Nat, c < 8 → rd kn c = -1 ∨ From h lag c (rd kn c) := by
    intro d
    induction d with
    | zero =>
      intro xs hd hx
      refine ⟨xs, Ev.step (f := fun _ => some xs) (fun k => ?_) (Ev.now _), by omega, fun c hc => hx c (by omega)⟩
      simp only [dialtoneref24_Known.l0]
      rw [if_neg (by omega)]
    | succ d ih =>
      intro xs hd hx
      obtain ⟨r, hr, f0, f1, f2, f3⟩ := least_tells h lag xs.length h1 h2 l0 l1
      have hw2 : wrap64 ((xs.length : Int) + 1) = ((xs.length + 1 : Nat) : Int) := by rw [w64 (by unfold I64; omega)]; omega
      have body : ∀ m : Int, I64 m → ∃ kn, Ev (fun k => dialtoneref24_Known.j1 k h lag y xs xs.length r m) kn ∧ kn.length = 8 ∧ ∀ c : Nat, c < 8 → rd kn c = -1 ∨ From h lag c (rd kn c) := by
        intro m hm
        obtain ⟨a, ha, a0, a1⟩ := pick_tells (Int.tdiv m 16) ((h.length : Int) - r) (tdiv_i64 hm) (by omega)
        obtain ⟨b, hb, b0, b1⟩ := pick_tells m 16 hm (by omega)
        have e1 : wrap64 (Int.tdiv m 16) = Int.tdiv m 16 := w64 (tdiv_i64 hm)
        have e2 : wrap64 ((h.length : Int) - r) = (h.length : Int) - r := w64 (by unfold I64; omega)
        have e3 : wrap64 (r + a) = r + a := w64 (by unfold I64; omega)
        by_cases h15 : b = 15
        · obtain ⟨kn, hk, hl, hok⟩ := ih (xs ++ [-1]) (by simp; omega) (fun c hc => by
            rcases Nat.lt_or_ge c xs.length with hlt | hge
            · rw [rd_append_lt _ _ _ hlt]; exact hx c hlt
            · have : c = xs.length := by simp at hc; omega
              subst this; rw [rd_append_eq]; exact .inl rfl)
          refine ⟨kn, Ev.step (fun k => ?_) hk, hl, hok⟩
          simp only [dialtoneref24_Known.j1]
          rw [e1, e2, ha, hb]
          simp only [Option.bind_some]
          rw [if_pos h15, if_pos (by omega), hw2]
          simp
        · obtain ⟨kn, hk, hl, hok⟩ := ih (xs ++ [r + a]) (by simp; omega) (fun c hc => by
            rcases Nat.lt_or_ge c xs.length with hlt | hge
            · rw [rd_append_lt _ _ _ hlt]; exact hx c hlt
            · have : c = xs.length := by simp at hc; omega
              subst this; rw [rd_append_eq]
              exact .inr ⟨by omega, by omega, by omega, fun u u1 u2 hne hor => by have := f3 u u1 u2 hne hor; omega⟩)
          refine ⟨kn, Ev.step (fun k => ?_) hk, hl, hok⟩
          simp only [dialtoneref24_Known.j1]
          rw [e1, e2, ha, hb]
          simp only [Option.bind_some]
          rw [if_neg h15, if_pos (by omega), hw2, e3]
          simp
      by_cases hlt : (xs.length : Int) < (y.length : Int)
      · obtain ⟨kn, hk, hl, hok⟩ := body (rd y xs.length) (rd_i64 hy _)
        refine ⟨kn, Ev.step (fun k => ?_) (Ev.bind (f := fun k r => dialtoneref24_Known.j1 k h lag y xs xs.length r (rd y xs.length)) hr hk), hl, hok⟩
        simp only [dialtoneref24_Known.l0]
        rw [if_pos (by omega)]
        simp only [if_pos hlt, if_pos (show (0 : Int) ≤ xs.length by omega)]
      · obtain ⟨kn, hk, hl, hok⟩ := body 0 (by simp [I64])
        refine ⟨kn, Ev.step (fun k => ?_) (Ev.bind (f := fun k r => dialtoneref24_Known.j1 k h lag y xs xs.length r 0) hr hk), hl, hok⟩
        simp only [dialtoneref24_Known.l0]
        rw [if_pos (by omega)]
        simp only [if_neg hlt]
  exact key 8 [] rfl (fun c hc => by simp at hc)
theorem known_valid (h y : List Int) (lag : Int) (h1 : 1 ≤ h.length) (h2 : h.length ≤ 30) (hh : ∀ i : Int, 0 ≤ i → i < h.length → -1 ≤ rd h i ∧ rd h i ≤ 7) (l0 : 0 ≤ lag) (l1 : lag ≤ 10) (hy : ∀ x ∈ y, I64 x) :
    ∃ kn, Ev (fun k => dialtoneref24_Known.f k h lag y) kn ∧ VK h kn lag := by
  obtain ⟨kn, hk, hl, hok⟩ := known_tells h y lag h1 h2 l0 l1 hy
  refine ⟨kn, hk, h1, h2, hh, hl, l0, l1, fun c c0 c8 => ?_⟩
  have := hok c.toNat (by omega)
  rw [show ((c.toNat : Nat) : Int) = c by omega] at this
  rcases this with h | ⟨a, b, d, e⟩
  · exact .inl h
  · exact .inr ⟨a, d, b, e⟩
theorem made_tells (x y : List Int) (lag : Int) (hx : ∀ v ∈ x, I64 v) (hy : ∀ v ∈ y, I64 v) (hl : I64 lag) :
    ∃ h kn l, Ev (fun k => dialtoneref24_Made.f k x y lag) (h, kn, l) ∧ VK h kn l ∧ h.length ≤ 12 ∧ dialtoneref24_pick.f lag 11 = some l := by
  obtain ⟨l, hpl, l0, l1⟩ := pick_tells lag 11 hl (by omega)
  have key : ∀ (d : Nat) (h : List Int), 1 ≤ h.length → h.length + d = 12 → (∀ i : Int, 0 ≤ i → i < h.length → -1 ≤ rd h i ∧ rd h i ≤ 7) →
      ∃ h' kn, Ev (fun k => dialtoneref24_Made.l0 k x y lag h h.length) (h', kn, l) ∧ VK h' kn l ∧ h'.length ≤ 12 := by
    intro d
    induction d with
    | zero =>
      intro h h1 hd hh
      obtain ⟨kn, hk, hv⟩ := known_valid h y l h1 (by omega) hh l0 (by omega) hy
      by_cases hlt : (h.length : Int) < (x.length : Int)
      · refine ⟨h, kn, Ev.step (fun k => ?_) (Ev.bind (f := fun _ z => some (h, z, l)) hk (Ev.now _)), hv, by omega⟩
        simp only [dialtoneref24_Made.l0]
        rw [if_pos hlt, if_neg (by omega), hpl]
        rfl
      · refine ⟨h, kn, Ev.step (fun k => ?_) (Ev.bind (f := fun _ z => some (h, z, l)) hk (Ev.now _)), hv, by omega⟩
        simp only [dialtoneref24_Made.l0]
        rw [if_neg hlt, hpl]
        rfl
    | succ d ih =>
      intro h h1 hd hh
      by_cases hlt : (h.length : Int) < (x.length : Int)
      · obtain ⟨a, ha, a0, a1⟩ := pick_tells (rd x h.length) 9 (rd_i64 hx _) (by omega)
        have e1 : wrap64 (a - 1) = a - 1 := w64 (by unfold I64; omega)
        have hw2 : wrap64 ((h.length : Int) + 1) = ((h.length + 1 : Nat) : Int) := by rw [w64 (by unfold I64; omega)]; omega
        obtain ⟨h', kn, hk, hv, hle⟩ := ih (h ++ [a - 1]) (by simp) (by simp; omega) (fun i i0 i1 => by
          have hi : i = ((i.toNat : Nat) : Int) := by omega
          rcases Nat.lt_or_ge i.toNat h.length with hlt | hge
          · rw [hi, rd_append_lt _ _ _ hlt, ← hi]; exact hh i i0 (by omega)
          · have : i.toNat = h.length := by simp at i1; omega
            rw [hi, this, rd_append_eq]; omega)
        refine ⟨h', kn, Ev.step (fun k => ?_) hk, hv, hle⟩
        simp only [dialtoneref24_Made.l0]
        rw [if_pos hlt, if_pos (by omega), if_pos (by omega), ha]
        simp only [Option.bind_some]
        rw [if_pos (by omega), e1, hw2]
        simp
      · obtain ⟨kn, hk, hv⟩ := known_valid h y l h1 (by omega) hh l0 (by omega) hy
        refine ⟨h, kn, Ev.step (fun k => ?_) (Ev.bind (f := fun _ z => some (h, z, l)) hk (Ev.now _)), hv, by omega⟩
        simp only [dialtoneref24_Made.l0]
        rw [if_neg hlt, hpl]
        rfl
  by_cases hx0 : (x.length : Int) > 0
  · obtain ⟨a, ha, a0, a1⟩ := pick_tells (rd x 0) 9 (rd_i64 hx _) (by omega)
    have e1 : wrap64 (a - 1) = a - 1 := w64 (by unfold I64; omega)
    obtain ⟨h', kn, hk, hv, hle⟩ := key 11 [a - 1] (by simp) (by simp) (fun i i0 i1 => by
      have : i = 0 := by simp at i1; omega
      subst this; simp [rd]; omega)
    refine ⟨h', kn, l, Ev.congr (fun k => ?_) (Ev.step (g := fun k => dialtoneref24_Made.j0 k x y lag [a - 1]) (fun k => rfl) hk), hv, hle, hpl⟩
    unfold dialtoneref24_Made.f
    simp only [Option.bind_some]
    rw [if_pos hx0, if_pos (by omega), ha]
    simp only [Option.bind_some]
    rw [if_pos (by simp), e1]
    rfl
  · obtain ⟨h', kn, hk, hv, hle⟩ := key 11 [0] (by simp) (by simp) (fun i i0 i1 => by
      have : i = 0 := by simp at i1; omega
      subst this; simp [rd])
    refine ⟨h', kn, l, Ev.congr (fun k => ?_) (Ev.step (g := fun k => dialtoneref24_Made.j0 k x y lag [0]) (fun k => rfl) hk), hv, hle, hpl⟩
    unfold dialtoneref24_Made.f
    simp only [Option.bind_some]
    rw [if_neg hx0]
theorem path_ev {h k : List Int} {lag c : Int} (H : VK h k lag) (c0 : 0 ≤ c) (c8 : c < 8) (hk : 0 ≤ rd k c) : ∃ l e, Ev (fun n => route_Path.f n h k lag c) (l, e, 0) ∧ Path h k c (-1) l e := by
  obtain ⟨xs, hxs, hp⟩ := path_tells H _ c (-1) c0 c8 hk (by omega) (by have := H.len1; omega) (.inl rfl) (Nat.le_refl _)
  refine ⟨_, _, Ev.of (fun n => route_Path.mono _ _ _ _ n) (k := (2 * ((h.length : Int) - -1) + (if rd h (-1) = c ∧ (0 : Int) ≤ -1 then 0 else 1)).toNat + 1) ?_, hp⟩
  have hcc : route_canCall.f h k lag c = some true := by
    unfold route_canCall.f route_Valid.f
    rw [(valid_iff h k lag).mpr H]
    have hl := H.klen
    simp only [Option.bind_some, if_true, route_isWithin.tells]
    have : inB c 0 7 = true := by simp [inB]; omega
    rw [this, if_pos rfl, if_pos c0, if_pos (by omega)]
    simp; omega
  unfold route_Path.f
  rw [hcc]
  simp only [Option.bind_some, if_true]
  rw [hxs]
  simp only [Option.bind_some]
  have hs := hp.short H c0 c8 hk
  have h1 := H.lag1
  rw [if_pos (by simp at hs; omega)]
theorem path_down {h k : List Int} {lag c : Int} (H : VK h k lag) (c0 : 0 ≤ c) (c8 : c < 8) (hk : ¬ 0 ≤ rd k c) : Ev (fun n => route_Path.f n h k lag c) ([], 0, 240) := by
  refine ⟨0, fun n _ => ?_⟩
  have hcc : route_canCall.f h k lag c = some false := by
    unfold route_canCall.f route_Valid.f
    rw [(valid_iff h k lag).mpr H]
    have hl := H.klen
    simp only [Option.bind_some, if_true, route_isWithin.tells]
    have : inB c 0 7 = true := by simp [inB]; omega
    rw [this, if_pos rfl, if_pos c0, if_pos (by omega)]
    simp; omega
  unfold route_Path.f
  rw [hcc]
  rfl
end Go.Proofs.Ytmiahmpobpokmaa.T24
namespace Go.Proofs.Ytmiahmpobpokmaa.T24
open Go.RowKit Go.Proofs.Ytmiahmpobpokmaa.P Go.Proofs.YtmiahmpobpokmaaW.PrintWords
theorem sane_at : dialtonelaw24_sane.f 30 = some true := by decide +kernel
theorem sane_ev : Ev (fun k => dialtonelaw24_sane.f k) true := Ev.of (fun k => dialtonelaw24_sane.mono k) (k := 30) sane_at
end Go.Proofs.Ytmiahmpobpokmaa.T24
namespace Go.Proofs.Ytmiahmpobpokmaa.Pure
open Go.RowKit Go.Proofs.Ytmiahmpobpokmaa.P Go.Proofs.Ytmiahmpobpokmaa.T24 Go.Proofs.YtmiahmpobpokmaaW.PrintWords Go.Proofs.YtmiahmpobpokmaaW.PrintLast Go.Proofs.YtmiahmpobpokmaaW.PrintMore
set_option linter.unusedVariables false

theorem rd_set' (l : List Int) (i : Nat) (v j : Int) (hi : i < l.length) : rd (l.set i v) j = if j.toNat = i then v else rd l j := by
  unfold rd
  by_cases h : j.toNat = i
  · rw [if_pos h, h]; simp [hi]
  · rw [if_neg h]; simp [List.getD_eq_getElem?_getD, List.getElem?_set_ne (Ne.symm h)]
/-- What is known after the first i hops of a path are told of its last version. -/
structure Learned (k m : List Int) (p : List HP) (i : Nat) : Prop where
  len : m.length = 8
  on : ∀ j : Nat, j < i → rd m (rdH p j).f0 = (rdH p (p.length - 1)).f1
  off : ∀ v : Int, 0 ≤ v → v < 8 → (∀ j : Nat, j < i → (rdH p j).f0 ≠ v) → rd m v = rd k v
theorem learn_loop {h k : List Int} {lag c e : Int} {p : List HP} (H : VK h k lag) (c0 : 0 ≤ c) (c8 : c < 8) (hk : 0 ≤ rd k c) (P : Path h k c (-1) p e) :
    ∀ (d i : Nat) (x : List Int), i + d = p.length → Learned k x p i → ∃ m, Ev (fun n => route_Learn.l0 n p x p p.length i) (m, 0) ∧ Learned k m p p.length := by
  have hs := P.short H c0 c8 hk
  have hl1 := H.lag1
  have hne := P.ne
  intro d
  induction d with
  | zero =>
    intro i x hi L
    obtain rfl : i = p.length := by omega
    refine ⟨x, Ev.step (f := fun _ => some (x, 0)) (fun n => ?_) (Ev.now _), L⟩
    simp only [route_Learn.l0]
    rw [if_neg (by omega)]
  | succ d ih =>
    intro i x hi L
    obtain ⟨a0, a1, a2, a3, a4, a5, a6⟩ := P.all H c0 c8 hk i (by omega)
    have hm := P.mono i (p.length - 1 - i) (by omega)
    rw [show i + (p.length - 1 - i) = p.length - 1 by omega] at hm
    have hxl := L.len
    have hmx : mx (rd x (rdH p i).f0) (rdH p (p.length - 1)).f1 = (rdH p (p.length - 1)).f1 := by
      have hle : rd x (rdH p i).f0 ≤ (rdH p (p.length - 1)).f1 := by
        by_cases hex : ∃ j, j < i ∧ (rdH p j).f0 = (rdH p i).f0
        · obtain ⟨j, ji, je⟩ := hex
          have := L.on j ji
          rw [je] at this
          omega
        · rw [L.off _ a0 a1 (fun j ji je => hex ⟨j, ji, je⟩)]; omega
      have := mx_le (rd x (rdH p i).f0) (rdH p (p.length - 1)).f1
      omega
    obtain ⟨m, hm1, hm2⟩ := ih (i + 1) (x.set (rdH p i).f0.toNat (rdH p (p.length - 1)).f1) (by omega) ⟨by simp [hxl], fun j hj => by
      have hc := P.all H c0 c8 hk j (by omega)
      rw [rd_set' _ _ _ _ (by omega)]
      by_cases he : (rdH p j).f0.toNat = (rdH p i).f0.toNat
      · rw [if_pos he]
      · rw [if_neg he]
        refine L.on j ?_
        rcases Nat.lt_or_ge j i with h | h
        · exact h
        · have : j = i := by omega
          subst this; exact absurd rfl he, fun v v0 v8 hv => by
      rw [rd_set' _ _ _ _ (by omega), if_neg (fun he => hv i (by omega) (by omega))]
      exact L.off v v0 v8 (fun j hj => hv j (by omega))⟩
    refine ⟨m, Ev.step (fun n => ?_) hm1, hm2⟩
    have e2 : wrap64 ((p.length : Int) - 1) = ((p.length - 1 : Nat) : Int) := by rw [w64 (by unfold I64; omega)]; omega
    simp only [route_Learn.l0]
    rw [e2]
    change (if (i : Int) < p.length then (if 0 ≤ (i : Int) then (if (i : Int) < p.length then (if 0 ≤ (rdH p i).f0 then (if (rdH p i).f0 < x.length then (if 0 ≤ ((p.length - 1 : Nat) : Int) then (if ((p.length - 1 : Nat) : Int) < p.length then
      (route_Learn.l0 n p (x.set (rdH p i).f0.toNat (mx (rd x (rdH p i).f0) (rdH p (p.length - 1)).f1)) p p.length (wrap64 ((i : Int) + 1))) else none) else none) else none) else none) else none) else none) else some (x, 0)) = _
    rw [if_pos (by omega), if_pos (by omega), if_pos (by omega), if_pos a0, if_pos (by omega), if_pos (by omega), if_pos (by omega), hmx, w64 (by unfold I64; omega)]
    rfl
end Go.Proofs.Ytmiahmpobpokmaa.Pure
namespace Go.Proofs.Ytmiahmpobpokmaa.T24
open Go.RowKit Go.Proofs.Ytmiahmpobpokmaa.P Go.Proofs.YtmiahmpobpokmaaW.PrintWords Go.Proofs.YtmiahmpobpokmaaW.PrintLast Go.Proofs.YtmiahmpobpokmaaW.PrintMore
set_option linter.unusedVariables false

theorem ref_in (n lo hi : Int) : dialtoneref24_in.f n lo hi = some (inB n lo hi) := by
  unfold dialtoneref24_in.f inB
  by_cases h1 : n ≥ lo
  · by_cases h2 : n ≤ hi <;> simp [h1, h2]
  · simp [h1]
theorem ref_holders (h : List Int) : Ev (fun n => dialtoneref24_holders.f n h) (holdersB h) := by
  have loop : ∀ (d i : Nat), h.length ≤ 30 → i + d = h.length → Ev (fun n => dialtoneref24_holders.l0 n h i) ((h.drop i).all (fun c => inB c (-1) 7)) := by
    intro d
    induction d with
    | zero =>
      intro i hl hi
      refine Ev.step (f := fun _ => some true) (fun n => ?_) (by rw [List.drop_eq_nil_of_le (by omega)]; exact Ev.now _)
      simp only [dialtoneref24_holders.l0]
      rw [if_neg (by omega)]
    | succ d ih =>
      intro i hl hi
      have hd : h.drop i = h[i] :: h.drop (i + 1) := List.drop_eq_getElem_cons (by omega)
      have hr : rd h i = h[i] := by simp [rd, show i < h.length by omega]
      rw [hd, List.all_cons]
      cases hb : inB h[i] (-1) 7 with
      | true =>
        rw [Bool.true_and]
        refine Ev.step (fun n => ?_) (ih (i + 1) hl (by omega))
        simp only [dialtoneref24_holders.l0, ref_in, Option.bind_some]
        rw [if_pos (by omega), if_pos (by omega), hr, hb, if_pos rfl, w64 (by unfold I64; omega)]
        rfl
      | false =>
        rw [Bool.false_and]
        refine Ev.step (f := fun _ => some false) (fun n => ?_) (Ev.now _)
        simp only [dialtoneref24_holders.l0, ref_in, Option.bind_some]
        rw [if_pos (by omega), if_pos (by omega), hr, hb, if_neg (by decide)]
  unfold dialtoneref24_holders.f holdersB
  simp only [ref_in, Option.bind_some]
  cases hb : inB (h.length : Int) 1 30 with
  | true =>
    simp only [if_true, Bool.true_and]
    have := loop h.length 0 (by simp [inB] at hb; omega) (by omega)
    simpa using this
  | false => exact Ev.now _
/-- No change of hands from a version on that a carrier lacks. -/
def okFrom (h k : List Int) (c u : Int) : Prop := ∀ v : Int, u ≤ v → v < h.length → rd h v ≠ rd h (v - 1) → (rd h v = c ∨ rd h (v - 1) = c) → 0 ≤ rd k c → v ≤ rd k c
def okP (h k : List Int) (lag c : Int) : Prop := inB (rd k c) (-1) ((h.length : Int) - 1) = true ∧ (0 ≤ rd k c → (h.length : Int) - 1 - lag ≤ rd k c) ∧ okFrom h k c 1
theorem ref_inner {h k : List Int} {lag : Int} (h1 : 1 ≤ h.length) (h2 : h.length ≤ 30) (hk : k.length = 8) (c : Nat) (hc : c < 8) (r : Bool)
    (next : Ev (fun n => dialtoneref24_Valid.l0 n h k lag ((h.length : Int) - 1) ((c + 1 : Nat) : Int)) r) :
    ∀ (d u : Nat), 1 ≤ u → u + d = h.length → ∃ b, Ev (fun n => dialtoneref24_Valid.l1 n h k lag ((h.length : Int) - 1) c u) b ∧ (b = true ↔ okFrom h k c u ∧ r = true) := by
  intro d
  induction d with
  | zero =>
    intro u u1 hu
    refine ⟨r, Ev.step (fun n => ?_) next, ?_⟩
    · simp only [dialtoneref24_Valid.l1]
      rw [if_neg (by omega), w64 (by unfold I64; omega)]
      rfl
    · exact ⟨fun hr => ⟨fun v v1 v2 => by omega, hr⟩, fun hr => hr.2⟩
  | succ d ih =>
    intro u u1 hu
    obtain ⟨b, hb, hbi⟩ := ih (u + 1) (by omega) (by omega)
    have e1 : wrap64 ((u : Int) - 1) = (u : Int) - 1 := w64 (by unfold I64; omega)
    have e2 : wrap64 ((u : Int) + 1) = ((u + 1 : Nat) : Int) := by rw [w64 (by unfold I64; omega)]; omega
    have unf : ∀ n, dialtoneref24_Valid.l1 (n + 1) h k lag ((h.length : Int) - 1) c u = if rd h u = rd h ((u : Int) - 1) then dialtoneref24_Valid.l1 n h k lag ((h.length : Int) - 1) c ((u + 1 : Nat) : Int) else
        if rd h u = c ∨ rd h ((u : Int) - 1) = c then (if 0 ≤ rd k c then (if rd k c < u then some false else dialtoneref24_Valid.l1 n h k lag ((h.length : Int) - 1) c ((u + 1 : Nat) : Int)) else dialtoneref24_Valid.l1 n h k lag ((h.length : Int) - 1) c ((u + 1 : Nat) : Int)) else dialtoneref24_Valid.l1 n h k lag ((h.length : Int) - 1) c ((u + 1 : Nat) : Int) := by
      intro n
      simp only [dialtoneref24_Valid.l1]
      rw [if_pos (by omega), if_pos (by omega), if_pos (by omega), e1, e2, if_pos (by omega), if_pos (by omega)]
      by_cases g1 : rd h u = rd h ((u : Int) - 1)
      · rw [if_pos g1, if_pos g1]
      · rw [if_neg g1, if_neg g1]
        by_cases g2 : rd h u = c
        · rw [if_pos g2, if_pos (show (0 : Int) ≤ c by omega), if_pos (show (c : Int) < k.length by omega), if_pos (show rd h u = c ∨ rd h ((u : Int) - 1) = c from .inl g2)]
        · rw [if_neg g2]
          by_cases g3 : rd h ((u : Int) - 1) = c
          · rw [if_pos g3, if_pos (show (0 : Int) ≤ c by omega), if_pos (show (c : Int) < k.length by omega), if_pos (show rd h u = c ∨ rd h ((u : Int) - 1) = c from .inr g3)]
          · rw [if_neg g3, if_neg (show ¬ (rd h u = c ∨ rd h ((u : Int) - 1) = c) by omega)]
    have keep : ¬ (rd h u ≠ rd h ((u : Int) - 1) ∧ (rd h u = c ∨ rd h ((u : Int) - 1) = c) ∧ 0 ≤ rd k c ∧ rd k c < u) → (b = true ↔ okFrom h k c u ∧ r = true) := by
      intro hn
      rw [hbi]
      constructor
      · rintro ⟨a, b⟩
        refine ⟨fun v v1 v2 v3 v4 v5 => ?_, b⟩
        by_cases hv : v = u
        · subst hv
          by_cases hlt : rd k c < (u : Int)
          · exact absurd ⟨v3, v4, v5, hlt⟩ hn
          · omega
        · exact a v (by omega) v2 v3 v4 v5
      · rintro ⟨a, b⟩
        exact ⟨fun v v1 => a v (by omega), b⟩
    by_cases g1 : rd h u = rd h ((u : Int) - 1)
    · exact ⟨b, Ev.step (fun n => by rw [unf n, if_pos g1]) hb, keep (fun hx => hx.1 g1)⟩
    · by_cases g2 : rd h u = c ∨ rd h ((u : Int) - 1) = c
      · by_cases g3 : 0 ≤ rd k c
        · by_cases g4 : rd k c < u
          · refine ⟨false, Ev.step (f := fun _ => some false) (fun n => by rw [unf n, if_neg g1, if_pos g2, if_pos g3, if_pos g4]) (Ev.now _), ?_⟩
            simp only [Bool.false_eq_true, false_iff]
            intro hx
            have := hx.1 u (by omega) (by omega) g1 g2 g3
            omega
          · exact ⟨b, Ev.step (fun n => by rw [unf n, if_neg g1, if_pos g2, if_pos g3, if_neg g4]) hb, keep (fun hx => g4 hx.2.2.2)⟩
        · exact ⟨b, Ev.step (fun n => by rw [unf n, if_neg g1, if_pos g2, if_neg g3]) hb, keep (fun hx => g3 hx.2.2.1)⟩
      · exact ⟨b, Ev.step (fun n => by rw [unf n, if_neg g1, if_neg g2]) hb, keep (fun hx => g2 hx.2.1)⟩
theorem ref_outer {h k : List Int} {lag : Int} (h1 : 1 ≤ h.length) (h2 : h.length ≤ 30) (hk : k.length = 8) (l0 : 0 ≤ lag) (l1 : lag ≤ 10) :
    ∀ (d c : Nat), c + d = 8 → ∃ b, Ev (fun n => dialtoneref24_Valid.l0 n h k lag ((h.length : Int) - 1) c) b ∧ (b = true ↔ ∀ v : Nat, c ≤ v → v < 8 → okP h k lag v) := by
  intro d
  induction d with
  | zero =>
    intro c hc
    refine ⟨true, Ev.step (f := fun _ => some true) (fun n => ?_) (Ev.now _), ?_⟩
    · simp only [dialtoneref24_Valid.l0]
      rw [if_neg (by omega)]
    · exact ⟨fun _ v v1 v2 => by omega, fun _ => rfl⟩
  | succ d ih =>
    intro c hc
    obtain ⟨r, hr, hri⟩ := ih (c + 1) (by omega)
    obtain ⟨b, hb, hbi⟩ := ref_inner h1 h2 hk c (by omega) r hr (h.length - 1) 1 (by omega) (by omega)
    have e1 : wrap64 ((h.length : Int) - 1 - lag) = (h.length : Int) - 1 - lag := w64 (by unfold I64; omega)
    have hj : Ev (fun n => dialtoneref24_Valid.j2 n h k lag ((h.length : Int) - 1) c false) b := Ev.step (fun n => by simp only [dialtoneref24_Valid.j2]; rw [if_neg (by decide)]; rfl) hb
    have hjt : Ev (fun n => dialtoneref24_Valid.j2 n h k lag ((h.length : Int) - 1) c true) false := Ev.step (f := fun _ => some false) (fun n => by simp only [dialtoneref24_Valid.j2]; rw [if_pos trivial]) (Ev.now _)
    have start : ∀ (x : Bool) (y : Bool), (x = true ↔ ¬ (inB (rd k c) (-1) ((h.length : Int) - 1) = true ∧ (0 ≤ rd k c → (h.length : Int) - 1 - lag ≤ rd k c))) → Ev (fun n => dialtoneref24_Valid.j2 n h k lag ((h.length : Int) - 1) c x) y → Ev (fun n => dialtoneref24_Valid.l0 n h k lag ((h.length : Int) - 1) c) y := by
      intro x y hx hy
      refine Ev.step (fun n => ?_) hy
      simp only [dialtoneref24_Valid.l0, ref_in, Option.bind_some]
      rw [if_pos (by omega), if_pos (by omega), e1]
      cases hi : inB (rd k c) (-1) ((h.length : Int) - 1) with
      | false =>
        rw [if_neg (by decide)]
        rw [hx.mpr (fun h => by rw [hi] at h; exact absurd h.1 (by decide))]
      | true =>
        rw [if_pos rfl]
        by_cases g : 0 ≤ rd k c
        · rw [if_pos g]
          congr 1
          by_cases g2 : rd k c < (h.length : Int) - 1 - lag
          · rw [decide_eq_true g2, hx.mpr (fun h => by have := h.2 g; omega)]
          · rw [decide_eq_false g2]
            cases x with
            | false => rfl
            | true => exact absurd ⟨hi, fun _ => by omega⟩ (hx.mp rfl)
        · rw [if_neg g]
          congr 1
          cases x with
          | false => rfl
          | true => exact absurd ⟨hi, fun h => absurd h g⟩ (hx.mp rfl)
    by_cases hg : inB (rd k c) (-1) ((h.length : Int) - 1) = true ∧ (0 ≤ rd k c → (h.length : Int) - 1 - lag ≤ rd k c)
    · refine ⟨b, start false b (by simpa using hg) hj, ?_⟩
      rw [hbi, hri]
      constructor
      · rintro ⟨a, b⟩ v v1 v2
        by_cases hv : v = c
        · subst hv; exact ⟨hg.1, hg.2, a⟩
        · exact b v (by omega) v2
      · intro H
        exact ⟨(H c (by omega) (by omega)).2.2, fun v v1 => H v (by omega)⟩
    · refine ⟨false, start true false (by simpa using hg) hjt, ?_⟩
      simp only [Bool.false_eq_true, false_iff]
      intro H
      have := H c (by omega) (by omega)
      exact hg ⟨this.1, this.2.1⟩
theorem ref_valid (h k : List Int) (lag : Int) : Ev (fun n => dialtoneref24_Valid.f n h k lag) (validB h k lag) := by
  have hjt : Ev (fun n => dialtoneref24_Valid.j0 n h k lag true) false := Ev.step (f := fun _ => some false) (fun n => by simp only [dialtoneref24_Valid.j0]; rw [if_pos trivial]) (Ev.now _)
  unfold dialtoneref24_Valid.f
  refine Ev.bind (ref_holders h) ?_
  cases hh : holdersB h with
  | false =>
    have : validB h k lag = false := by simp [validB, hh]
    rw [this]
    exact Ev.congr (fun n => by rw [if_neg (by decide)]) hjt
  | true =>
    by_cases hk : (k.length : Int) = 8
    · cases hl : inB lag 0 10 with
      | false =>
        have : validB h k lag = false := by simp [validB, hl]
        rw [this]
        exact Ev.congr (fun n => by rw [if_pos rfl, if_pos hk, ref_in, hl]; rfl) hjt
      | true =>
        have hh2 : 1 ≤ h.length ∧ h.length ≤ 30 := by simp [holdersB, inB] at hh; omega
        have hl2 : 0 ≤ lag ∧ lag ≤ 10 := by simpa [inB] using hl
        obtain ⟨b, hb, hbi⟩ := ref_outer (k := k) hh2.1 hh2.2 (by omega) hl2.1 hl2.2 8 0 rfl
        have hj : Ev (fun n => dialtoneref24_Valid.j0 n h k lag false) b := Ev.step (fun n => by simp only [dialtoneref24_Valid.j0]; rw [if_neg (by decide), w64 (by unfold I64; omega)]; rfl) hb
        have hbv : b = validB h k lag := by
          rw [Bool.eq_iff_iff, hbi, valid_iff]
          constructor
          · intro H
            refine ⟨hh2.1, hh2.2, fun i a b => holdersB.at hh i a b, (by omega : k.length = 8), hl2.1, hl2.2, fun c c0 c8 => ?_⟩
            obtain ⟨a1, a2, a3⟩ := H c.toNat (by omega) (by omega)
            rw [show ((c.toNat : Nat) : Int) = c by omega] at a1 a2 a3
            simp only [inB, Bool.and_eq_true, decide_eq_true_eq] at a1
            by_cases g : 0 ≤ rd k c
            · exact .inr ⟨g, a2 g, by omega, fun u u1 u2 u3 u4 => a3 u u1 u2 u3 u4 g⟩
            · exact .inl (by omega)
          · intro V v _ v8
            have hle := V.lag0
            rcases V.known v (by omega) (by omega) with g | ⟨g1, g2, g3, g4⟩
            · refine ⟨by simp only [inB, Bool.and_eq_true, decide_eq_true_eq]; omega, fun h => by omega, fun u u1 u2 u3 u4 u5 => by omega⟩
            · refine ⟨by simp only [inB, Bool.and_eq_true, decide_eq_true_eq]; omega, fun _ => g2, fun u u1 u2 u3 u4 u5 => g4 u u1 u2 u3 u4⟩
        rw [← hbv]
        exact Ev.congr (fun n => by rw [if_pos rfl, if_pos hk, ref_in, hl]; rfl) hj
    · have : validB h k lag = false := by
        have : decide (k.length = 8) = false := decide_eq_false (by omega)
        simp [validB, this]
      rw [this]
      exact Ev.congr (fun n => by rw [if_pos rfl, if_neg hk]) hjt
/-- The ways of a call's path, as the reference goes them. -/
theorem ref_up (k : List Int) (c : Int) (hk : k.length = 8) : dialtoneref24_up.f k c = some (inB c 0 7 && decide (0 ≤ rd k c)) := by
  unfold dialtoneref24_up.f
  rw [ref_in]
  simp only [Option.bind_some]
  cases h : inB c 0 7 with
  | false => rw [if_neg (by decide)]; rfl
  | true =>
    have h2 : 0 ≤ c ∧ c ≤ 7 := by simpa [inB] using h
    rw [if_pos rfl, if_pos h2.1, if_pos (by omega)]
    rfl
theorem canCall_eq {h k : List Int} {lag : Int} (H : VK h k lag) (c : Int) : route_canCall.f h k lag c = some (inB c 0 7 && decide (0 ≤ rd k c)) := by
  have hl := H.klen
  unfold route_canCall.f route_Valid.f
  rw [(valid_iff h k lag).mpr H]
  simp only [Option.bind_some, if_true, route_isWithin.tells]
  cases h : inB c 0 7 with
  | false => rw [if_neg (by decide)]; rfl
  | true =>
    have h2 : 0 ≤ c ∧ c ≤ 7 := by simpa [inB] using h
    rw [if_pos rfl, if_pos h2.1, if_pos (by omega)]
    rfl
theorem canCall_bad {h k : List Int} {lag : Int} (H : validB h k lag = false) (c : Int) : route_canCall.f h k lag c = some false := by
  unfold route_canCall.f route_Valid.f
  rw [H]
  rfl
theorem ref_decide_eq {h k : List Int} {lag : Int} (H : VK h k lag) (c u : Int) : dialtoneref24_decide.f h k c u = route_decide.f h k c u := by
  unfold dialtoneref24_decide.f route_decide.f
  by_cases h1 : 0 ≤ c
  · rw [if_pos h1, if_pos h1]
    by_cases h2 : c < k.length
    · rw [if_pos h2, if_pos h2]
      by_cases h3 : 0 ≤ mx (rd k c) u
      · rw [if_pos h3, if_pos h3]
        by_cases h4 : mx (rd k c) u < h.length
        · rw [if_pos h4, if_pos h4]
          by_cases h5 : rd h (mx (rd k c) u) = c
          · rw [if_pos h5, if_pos h5]
          · rw [if_neg h5, if_neg h5]
            have := H.hold _ h3 h4
            by_cases h6 : rd h (mx (rd k c) u) = -1
            · rw [if_pos h6, if_pos (show rd h (mx (rd k c) u) < 0 by omega)]
            · rw [if_neg h6, if_neg (show ¬ rd h (mx (rd k c) u) < 0 by omega)]
        · rw [if_neg h4, if_neg h4]
      · rw [if_neg h3, if_neg h3]
    · rw [if_neg h2, if_neg h2]
  · rw [if_neg h1, if_neg h1]
theorem ref_hops {h k : List Int} {lag : Int} (H : VK h k lag) : ∀ (m : Nat) (c u : Int) (acc : List HP) (xs : List (HP × Int)), hopsE m h k c u = some xs → acc.length + xs.length < 1000000 →
    Ev (fun n => dialtoneref24_Path.l0 n h k c acc u) (acc ++ xs.map Prod.fst, lastEnd xs, 0)
  | 0, c, u, acc, xs, hx, _ => by cases hx
  | m + 1, c, u, acc, xs, hx, hl => by
    unfold hopsE at hx
    cases hd : route_decide.f h k c u with
    | none => rw [hd] at hx; cases hx
    | some t =>
      obtain ⟨w, nx, e⟩ := t
      rw [hd] at hx
      simp only [Option.bind_some] at hx
      by_cases he : e = 0
      · rw [if_pos he] at hx
        cases hz : hopsE m h k nx w with
        | none => rw [hz] at hx; cases hx
        | some zs =>
          rw [hz] at hx
          obtain rfl := Option.some.inj hx
          have hne : zs ≠ [] := by
            intro hn; subst hn
            cases m with
            | zero => cases hz
            | succ m =>
              unfold hopsE at hz
              cases hd2 : route_decide.f h k nx w with
              | none => rw [hd2] at hz; cases hz
              | some t =>
                rw [hd2] at hz
                simp only [Option.bind_some] at hz
                split at hz
                · cases hz3 : hopsE m h k t.2.1 t.1 <;> rw [hz3] at hz <;> simp at hz
                · simp at hz
          have hlast : lastEnd ((⟨c, w⟩, e) :: zs) = lastEnd zs := by
            cases zs with
            | nil => exact absurd rfl hne
            | cons y ys => simp [lastEnd]
          have := ref_hops H m nx w (acc ++ [⟨c, w⟩]) zs hz (by simp at hl ⊢; omega)
          rw [hlast]
          simp only [List.map_cons]
          rw [show acc ++ (⟨c, w⟩ : HP) :: zs.map Prod.fst = (acc ++ [⟨c, w⟩]) ++ zs.map Prod.fst by simp]
          refine Ev.step (fun n => ?_) this
          simp only [dialtoneref24_Path.l0, ref_decide_eq H, hd, Option.bind_some]
          rw [if_pos (by omega), if_pos he]
      · rw [if_neg he] at hx
        obtain rfl := Option.some.inj hx
        refine Ev.step (f := fun _ => some (acc ++ [⟨c, w⟩], e, 0)) (fun n => ?_) (Ev.now _)
        simp only [dialtoneref24_Path.l0, ref_decide_eq H, hd, Option.bind_some]
        rw [if_pos (by omega), if_neg he]
/-- The two paths are the same one. -/
theorem ref_path (h k : List Int) (lag c : Int) : ∃ l e s, Ev (fun n => route_Path.f n h k lag c) (l, e, s) ∧ Ev (fun n => dialtoneref24_Path.f n h k lag c) (l, e, s) ∧ l.length ≤ 12 ∧
    (s = 0 → VK h k lag ∧ 0 ≤ c ∧ c < 8 ∧ 0 ≤ rd k c ∧ Path h k c (-1) l e) := by
  cases hv : validB h k lag with
  | false =>
    refine ⟨[], 0, 240, ⟨0, fun n _ => ?_⟩, ?_, by simp, fun h => by omega⟩
    · unfold route_Path.f
      rw [canCall_bad hv]
      rfl
    · unfold dialtoneref24_Path.f
      refine Ev.bind (ref_valid h k lag) ?_
      rw [hv]
      exact Ev.now _
  | true =>
    have H := (valid_iff h k lag).mp hv
    cases hu : (inB c 0 7 && decide (0 ≤ rd k c)) with
    | false =>
      refine ⟨[], 0, 240, ⟨0, fun n _ => ?_⟩, ?_, by simp, fun h => by omega⟩
      · unfold route_Path.f
        rw [canCall_eq H, hu]
        rfl
      · unfold dialtoneref24_Path.f
        refine Ev.bind (ref_valid h k lag) ?_
        rw [hv, ref_up k c H.klen, hu]
        exact Ev.now _
    | true =>
      have h2 : (0 ≤ c ∧ c ≤ 7) ∧ 0 ≤ rd k c := by simpa [inB] using hu
      obtain ⟨xs, hxs, hp⟩ := path_tells H _ c (-1) h2.1.1 (by omega) h2.2 (by omega) (by have := H.len1; omega) (.inl rfl) (Nat.le_refl _)
      have hs := hp.short H h2.1.1 (by omega) h2.2
      have hl1 := H.lag1
      have hxl : xs.length ≤ 12 := by simp at hs; omega
      refine ⟨xs.map Prod.fst, lastEnd xs, 0, ?_, ?_, by simpa using hxl, fun _ => ⟨H, h2.1.1, by omega, h2.2, hp⟩⟩
      · refine Ev.of (fun n => route_Path.mono _ _ _ _ n) (k := (2 * ((h.length : Int) - -1) + (if rd h (-1) = c ∧ (0 : Int) ≤ -1 then 0 else 1)).toNat + 1) ?_
        unfold route_Path.f
        rw [canCall_eq H, hu]
        simp only [Option.bind_some, if_true]
        rw [hxs]
        simp only [Option.bind_some]
        rw [if_pos (by simp at hs; omega)]
      · unfold dialtoneref24_Path.f
        refine Ev.bind (ref_valid h k lag) ?_
        rw [hv, ref_up k c H.klen, hu]
        exact ref_hops H _ c (-1) [] xs hxs (by simp; omega)
end Go.Proofs.Ytmiahmpobpokmaa.T24
namespace Go.Proofs.Ytmiahmpobpokmaa.T24
open Go.RowKit Go.Proofs.Ytmiahmpobpokmaa.P Go.Proofs.YtmiahmpobpokmaaW.PrintWords Go.Proofs.YtmiahmpobpokmaaW.PrintLast Go.Proofs.YtmiahmpobpokmaaW.PrintMore
set_option linter.unusedVariables false

theorem learn_l0_eq (p : List HP) : ∀ (n : Nat) (x : List Int) (i : Int), dialtoneref24_Learn.l0 n p x i = route_Learn.l0 n p x p p.length i
  | 0, x, i => by simp [dialtoneref24_Learn.l0, route_Learn.l0]
  | n + 1, x, i => by
    simp only [dialtoneref24_Learn.l0, route_Learn.l0]
    by_cases h1 : i < (p.length : Int)
    · simp only [if_pos h1, learn_l0_eq p n]
    · simp only [if_neg h1]
theorem ref_learn (h k : List Int) (lag c : Int) : ∃ m s, Ev (fun n => route_Learn.f n h k lag c) (m, s) ∧ Ev (fun n => dialtoneref24_Learn.f n h k lag c) (m, s) ∧ m.length ≤ 8 := by
  obtain ⟨l, e, s, h1, h2, hl, hs⟩ := ref_path h k lag c
  by_cases h0 : s = 0
  · subst h0
    obtain ⟨H, c0, c8, hk, P⟩ := hs rfl
    obtain ⟨m, h3, h4⟩ := Pure.learn_loop H c0 c8 hk P l.length 0 k (by omega) ⟨H.klen, fun j hj => by omega, fun v _ _ _ => rfl⟩
    refine ⟨m, 0, ?_, ?_, by have := h4.len; omega⟩
    · unfold route_Learn.f
      refine Ev.bind h1 ?_
      refine Ev.congr (fun n => ?_) h3
      rw [if_pos rfl, show slices_Clone_int_int.f k = some k by unfold slices_Clone_int_int.f; rw [if_pos (by have := H.klen; omega)]]
      rfl
    · unfold dialtoneref24_Learn.f
      refine Ev.bind h2 ?_
      refine Ev.congr (fun n => ?_) h3
      have hkl := H.klen
      simp only [if_true, Option.bind_some, List.length_nil, Nat.zero_add, List.nil_append]
      rw [if_pos (by omega)]
      exact learn_l0_eq l n k 0
  · refine ⟨[], s, ?_, ?_, by simp⟩
    · unfold route_Learn.f
      refine Ev.bind h1 ?_
      exact Ev.congr (fun n => by simp only [if_neg h0]) (Ev.now _)
    · unfold dialtoneref24_Learn.f
      refine Ev.bind h2 ?_
      exact Ev.congr (fun n => by simp only [if_neg h0]) (Ev.now _)
theorem ref_decides (h k : List Int) (lag c u : Int) : ∃ a b d s, route_Decide.f h k lag c u = some (a, b, d, s) ∧ Ev (fun n => dialtoneref24_Decide.f n h k lag c u) (a, b, d, s) := by
  have hjt : Ev (fun n => dialtoneref24_Decide.j0 n h k c u true) (0, 0, 0, 240) := Ev.step (f := fun _ => some (0, 0, 0, 240)) (fun n => by simp only [dialtoneref24_Decide.j0]; rw [if_pos trivial]) (Ev.now _)
  cases hv : validB h k lag with
  | false =>
    refine ⟨0, 0, 0, 240, ?_, ?_⟩
    · unfold route_Decide.f
      rw [canCall_bad hv]
      rfl
    · unfold dialtoneref24_Decide.f
      refine Ev.bind (ref_valid h k lag) ?_
      rw [hv]
      exact hjt
  | true =>
    have H := (valid_iff h k lag).mp hv
    have hl1 := H.len1
    have hl2 := H.len2
    have e1 : wrap64 ((h.length : Int) - 1) = (h.length : Int) - 1 := w64 (by unfold I64; omega)
    have hjf : ∀ r, Ev (fun n => (dialtoneref24_up.f k c).bind fun t292 => (if t292 = true then ((dialtoneref24_decide.f h k c u).bind fun bt293 => (some (bt293.1, bt293.2.1, bt293.2.2, (0 : Int)))) else (some (0, 0, 0, 240)))) r → Ev (fun n => dialtoneref24_Decide.j0 n h k c u false) r :=
      fun r hr => Ev.step (fun n => by simp only [dialtoneref24_Decide.j0]; rw [if_neg (by decide)]) hr
    cases hu : inB u (-1) ((h.length : Int) - 1) with
    | false =>
      refine ⟨0, 0, 0, 240, ?_, ?_⟩
      · unfold route_Decide.f
        rw [canCall_eq H, e1]
        simp only [Option.bind_some, route_isWithin.tells, hu]
        cases (inB c 0 7 && decide (0 ≤ rd k c)) <;> rfl
      · unfold dialtoneref24_Decide.f
        refine Ev.bind (ref_valid h k lag) ?_
        rw [hv, e1, ref_in, hu]
        exact hjt
    | true =>
      have hu2 : -1 ≤ u ∧ u ≤ (h.length : Int) - 1 := by simpa [inB] using hu
      cases hc : (inB c 0 7 && decide (0 ≤ rd k c)) with
      | false =>
        refine ⟨0, 0, 0, 240, ?_, ?_⟩
        · unfold route_Decide.f
          rw [canCall_eq H, hc]
          rfl
        · unfold dialtoneref24_Decide.f
          refine Ev.bind (ref_valid h k lag) ?_
          rw [hv, e1, ref_in, hu]
          refine hjf _ ?_
          rw [ref_up k c H.klen, hc]
          exact Ev.now _
      | true =>
        have h2 : (0 ≤ c ∧ c ≤ 7) ∧ 0 ≤ rd k c := by simpa [inB] using hc
        obtain ⟨a, b, d, hd⟩ : ∃ a b d, route_decide.f h k c u = some (a, b, d) := by
          rcases (decide_tells H c u h2.1.1 (by omega) h2.2 hu2.1 (by omega)).2.2 with ⟨e, _, h, _⟩ | ⟨h, _⟩
          · exact ⟨_, _, _, h⟩
          · exact ⟨_, _, _, h⟩
        refine ⟨a, b, d, 0, ?_, ?_⟩
        · unfold route_Decide.f
          rw [canCall_eq H, hc, e1]
          simp only [Option.bind_some, route_isWithin.tells, hu, if_true, hd]
        · unfold dialtoneref24_Decide.f
          refine Ev.bind (ref_valid h k lag) ?_
          rw [hv, e1, ref_in, hu]
          refine hjf _ ?_
          rw [ref_up k c H.klen, hc, ref_decide_eq H, hd]
          exact Ev.now _
end Go.Proofs.Ytmiahmpobpokmaa.T24
namespace Go.Proofs.Ytmiahmpobpokmaa.T24
open Go.RowKit Go.Proofs.Ytmiahmpobpokmaa.P Go.Proofs.YtmiahmpobpokmaaW.PrintWords Go.Proofs.YtmiahmpobpokmaaW.PrintLast Go.Proofs.YtmiahmpobpokmaaW.PrintMore
set_option linter.unusedVariables false

theorem ref_same (l : List HP) (hl : l.length < 1000000) : Ev (fun n => dialtoneref24_Same.f n l l) true := by
  have loop : ∀ (d i : Nat), i + d = l.length → Ev (fun n => dialtoneref24_Same.l0 n l l i) true := by
    intro d
    induction d with
    | zero =>
      intro i hi
      refine Ev.step (f := fun _ => some true) (fun n => ?_) (Ev.now _)
      simp only [dialtoneref24_Same.l0]
      rw [if_neg (by omega)]
    | succ d ih =>
      intro i hi
      refine Ev.step (fun n => ?_) (ih (i + 1) (by omega))
      simp only [dialtoneref24_Same.l0]
      rw [if_pos (by omega), if_pos (by omega), if_pos (by omega), if_neg (by simp), w64 (by unfold I64; omega)]
      rfl
  unfold dialtoneref24_Same.f
  exact Ev.congr (fun n => by rw [if_pos rfl]; rfl) (loop l.length 0 (by omega))
theorem ref_ints (l : List Int) (hl : l.length < 1000000) : Ev (fun n => dialtoneref24_Ints.f n l l) true := by
  have loop : ∀ (d i : Nat), i + d = l.length → Ev (fun n => dialtoneref24_Ints.l0 n l l i) true := by
    intro d
    induction d with
    | zero =>
      intro i hi
      refine Ev.step (f := fun _ => some true) (fun n => ?_) (Ev.now _)
      simp only [dialtoneref24_Ints.l0]
      rw [if_neg (by omega)]
    | succ d ih =>
      intro i hi
      refine Ev.step (fun n => ?_) (ih (i + 1) (by omega))
      simp only [dialtoneref24_Ints.l0]
      rw [if_pos (by omega), if_pos (by omega), if_pos (by omega), if_pos trivial, w64 (by unfold I64; omega)]
      rfl
  unfold dialtoneref24_Ints.f
  exact Ev.congr (fun n => by rw [if_pos rfl]; rfl) (loop l.length 0 (by omega))
theorem blame_loop {h : List Int} {l : List HP} (hh : holdersB h = true) (hl : l.length < 1000000) : ∀ (d i : Nat) (y : HP), i + d = l.length → (0 < i → y = rdH l (i - 1) ∧ inB y.f1 0 ((h.length : Int) - 1) = true) →
    Ev (fun n => dialtoneref24_Blame.l0 n h l i) (blameFrom h l.length i y (l.drop i)) := by
  have hh2 : 1 ≤ h.length ∧ h.length ≤ 30 := by simp [holdersB, inB] at hh; omega
  have e1 : wrap64 ((h.length : Int) - 1) = (h.length : Int) - 1 := w64 (by unfold I64; omega)
  intro d
  induction d with
  | zero =>
    intro i y hi hy
    rw [List.drop_eq_nil_of_le (by omega)]
    refine Ev.step (f := fun _ => some (-1)) (fun n => ?_) (by unfold blameFrom; exact Ev.now _)
    simp only [dialtoneref24_Blame.l0]
    rw [if_neg (by omega)]
  | succ d ih =>
    intro i y hi hy
    have hd : l.drop i = rdH l i :: l.drop (i + 1) := by rw [rdH_eq l i (by omega)]; exact List.drop_eq_getElem_cons (by omega)
    have next := ih (i + 1) (rdH l i) (by omega)
    rw [hd, blameFrom]
    have j2t : ∀ a b, Ev (fun n => dialtoneref24_Blame.j2 n h l i true a b) (i : Int) := fun a b => Ev.step (f := fun _ => some (i : Int)) (fun n => by simp only [dialtoneref24_Blame.j2]; rw [if_pos trivial]) (Ev.now _)
    have j3t : ∀ a b, Ev (fun n => dialtoneref24_Blame.j3 n h l i true a b) (i : Int) := fun a b => Ev.step (f := fun _ => some (i : Int)) (fun n => by simp only [dialtoneref24_Blame.j3]; rw [if_pos trivial]) (Ev.now _)
    have into : ∀ v, Ev (fun n => dialtoneref24_Blame.j2 n h l i (!(inB (rdH l i).f0 0 7 && inB (rdH l i).f1 0 ((h.length : Int) - 1))) (rdH l i).f0 (rdH l i).f1) v → Ev (fun n => dialtoneref24_Blame.l0 n h l i) v := by
      intro v hv
      refine Ev.step (fun n => ?_) hv
      simp only [dialtoneref24_Blame.l0, ref_in, Option.bind_some, e1]
      rw [if_pos (by omega), if_pos (by omega)]
      change (if inB (rdH l i).f0 0 7 = true then dialtoneref24_Blame.j2 n h l i (!inB (rdH l i).f1 0 ((h.length : Int) - 1)) (rdH l i).f0 (rdH l i).f1 else dialtoneref24_Blame.j2 n h l i true (rdH l i).f0 (rdH l i).f1) = _
      cases inB (rdH l i).f0 0 7 <;> rfl
    apply into
    cases hok : (inB (rdH l i).f0 0 7 && inB (rdH l i).f1 0 ((h.length : Int) - 1)) with
    | false =>
      have : badHop h l.length i (rdH l i) y = true := by
        unfold badHop
        cases ha : inB (rdH l i).f0 0 7 with
        | false => simp
        | true => rw [ha, Bool.true_and] at hok; rw [hok]; simp
      rw [this, if_pos rfl]
      exact j2t _ _
    | true =>
      obtain ⟨ha, hb⟩ := Bool.and_eq_true_iff.mp hok
      have hb2 : 0 ≤ (rdH l i).f1 ∧ (rdH l i).f1 ≤ (h.length : Int) - 1 := by simpa [inB] using hb
      have hbad : badHop h l.length i (rdH l i) y = ((decide (0 < i) && (!((rdH l i).f0 == rd h y.f1) || decide ((rdH l i).f1 < y.f1))) || (decide (i + 1 < l.length) && (rd h (rdH l i).f1 == (rdH l i).f0 || rd h (rdH l i).f1 == -1))) := by
        unfold badHop
        rw [ha, hb]
        simp
      have nx := next (fun _ => ⟨by rw [Nat.add_sub_cancel], hb⟩)
      have e2 : wrap64 ((l.length : Int) - 1) = (l.length : Int) - 1 := w64 (by unfold I64; omega)
      have e3 : wrap64 ((i : Int) + 1) = ((i + 1 : Nat) : Int) := by rw [w64 (by unfold I64; omega)]; omega
      have j3f : (decide (0 < i) && (!((rdH l i).f0 == rd h y.f1) || decide ((rdH l i).f1 < y.f1))) = false → Ev (fun n => dialtoneref24_Blame.j3 n h l i false (rdH l i).f0 (rdH l i).f1) (if badHop h l.length i (rdH l i) y = true then (i : Int) else blameFrom h l.length (i + 1) (rdH l i) (l.drop (i + 1))) := by
        intro hz
        rw [hbad, hz, Bool.false_or]
        by_cases h3 : i + 1 < l.length
        · rw [decide_eq_true h3, Bool.true_and]
          by_cases h4 : rd h (rdH l i).f1 = (rdH l i).f0
          · rw [if_pos (by simp [h4])]
            refine Ev.step (f := fun _ => some (i : Int)) (fun n => ?_) (Ev.now _)
            simp only [dialtoneref24_Blame.j3]
            rw [if_neg (by decide), e2, if_pos (by omega), if_pos (by omega), if_pos (by omega), if_pos h4]
          · by_cases h5 : rd h (rdH l i).f1 = -1
            · rw [if_pos (by simp [h5])]
              refine Ev.step (f := fun _ => some (i : Int)) (fun n => ?_) (Ev.now _)
              simp only [dialtoneref24_Blame.j3]
              rw [if_neg (by decide), e2, if_pos (by omega), if_pos (by omega), if_pos (by omega), if_neg h4, if_pos h5]
            · rw [if_neg (by simp [h4, h5])]
              refine Ev.step (fun n => ?_) nx
              simp only [dialtoneref24_Blame.j3]
              rw [if_neg (by decide), e2, if_pos (by omega), if_pos (by omega), if_pos (by omega), if_neg h4, if_neg h5, e3]
        · rw [decide_eq_false h3, Bool.false_and, if_neg (by decide)]
          refine Ev.step (fun n => ?_) nx
          simp only [dialtoneref24_Blame.j3]
          rw [if_neg (by decide), e2, if_neg (by omega), e3]
      by_cases h0 : 0 < i
      · obtain ⟨hy1, hy2⟩ := hy h0
        have hy3 : 0 ≤ y.f1 ∧ y.f1 ≤ (h.length : Int) - 1 := by simpa [inB] using hy2
        have e4 : wrap64 ((i : Int) - 1) = ((i - 1 : Nat) : Int) := by rw [w64 (by unfold I64; omega)]; omega
        have st : ∀ v, Ev (fun n => dialtoneref24_Blame.j3 n h l i (!((rdH l i).f0 == rd h y.f1) || decide ((rdH l i).f1 < y.f1)) (rdH l i).f0 (rdH l i).f1) v → Ev (fun n => dialtoneref24_Blame.j2 n h l i (!true) (rdH l i).f0 (rdH l i).f1) v := by
          intro v hv
          refine Ev.step (fun n => ?_) hv
          simp only [dialtoneref24_Blame.j2, e4]
          rw [if_neg (by decide), if_pos (by omega), if_pos (by omega), if_pos (by omega)]
          change (if 0 ≤ (rdH l (i - 1)).f1 then (if (rdH l (i - 1)).f1 < h.length then (if (rdH l i).f0 = rd h (rdH l (i - 1)).f1 then dialtoneref24_Blame.j3 n h l i (decide ((rdH l i).f1 < (rdH l (i - 1)).f1)) (rdH l i).f0 (rdH l i).f1 else dialtoneref24_Blame.j3 n h l i true (rdH l i).f0 (rdH l i).f1) else none) else none) = _
          rw [← hy1, if_pos hy3.1, if_pos (by omega)]
          by_cases g : (rdH l i).f0 = rd h y.f1
          · rw [if_pos g, beq_iff_eq.mpr g]; rfl
          · rw [if_neg g, beq_eq_false_iff_ne.mpr g]; rfl
        apply st
        cases hz : (!((rdH l i).f0 == rd h y.f1) || decide ((rdH l i).f1 < y.f1)) with
        | true =>
          rw [hbad, hz, decide_eq_true h0, if_pos (by simp)]
          exact j3t _ _
        | false => exact j3f (by rw [hz, Bool.and_false])
      · have : Ev (fun n => dialtoneref24_Blame.j2 n h l i (!true) (rdH l i).f0 (rdH l i).f1) _ := Ev.step (fun n => by simp only [dialtoneref24_Blame.j2]; rw [if_neg (by decide), if_neg (by omega)]) (j3f (by rw [decide_eq_false h0, Bool.false_and]))
        exact this
theorem ref_blame (h : List Int) (l : List HP) (hl : l.length < 1000000) : ∃ b, route_Blame.f h l = some b ∧ Ev (fun n => dialtoneref24_Blame.f n h l) b := by
  refine ⟨_, rfl, ?_⟩
  have j0t : Ev (fun n => dialtoneref24_Blame.j0 n h l true) (-2) := Ev.step (f := fun _ => some (-2)) (fun n => by simp only [dialtoneref24_Blame.j0]; rw [if_pos trivial]) (Ev.now _)
  unfold dialtoneref24_Blame.f
  refine Ev.bind (ref_holders h) ?_
  cases hh : holdersB h with
  | false =>
    rw [if_neg (by simp)]
    exact j0t
  | true =>
    by_cases hn : l = []
    · subst hn
      rw [if_neg (by simp)]
      exact j0t
    · rw [if_pos ⟨rfl, hn⟩]
      have hne : ((l.length : Int) == 0) = false := beq_eq_false_iff_ne.mpr (by intro h0; exact hn (List.length_eq_zero_iff.mp (by omega)))
      rw [hne]
      have := blame_loop hh hl l.length 0 z40 (by omega) (fun h0 => by omega)
      rw [List.drop_zero] at this
      have hz : Ev (fun n => dialtoneref24_Blame.j0 n h l false) (blameFrom h l.length 0 z40 l) := Ev.step (fun n => by simp only [dialtoneref24_Blame.j0]; rw [if_neg (by decide)]; rfl) this
      exact Ev.congr (fun n => by rw [if_pos rfl]) hz
end Go.Proofs.Ytmiahmpobpokmaa.T24
