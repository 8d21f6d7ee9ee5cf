/- The plain law of routes: what a valid pair of holders and known versions gives for a path. -/
import Derived.Test.YtmiahmpobpokmaaPx0
import Derived.Test.YtmiahmpobpokmaaPx3
import Derived.Test.YtmiahmpobpokmaaPx4
import Derived.Test.YtmiahmpobpokmaaPx6
import Derived.Test.YtmiahmpobpokmaaPx9
namespace Go.Proofs.Ytmiahmpobpokmaa.T24
open Go.RowKit Go.Proofs.Ytmiahmpobpokmaa.P Go.Proofs.YtmiahmpobpokmaaW.PrintWords Go.Proofs.YtmiahmpobpokmaaW.PrintLast Go.Proofs.YtmiahmpobpokmaaW.PrintMore
set_option linter.unusedVariables false

abbrev HP := S40
def rdH (l : List HP) (i : Nat) : HP := rd_T40 l i
theorem rdH_eq (l : List HP) (i : Nat) (h : i < l.length) : rdH l i = l[i] := by simp [rdH, rd_T40, h]
theorem mx_le (a b : Int) : a ≤ mx a b ∧ b ≤ mx a b ∧ (mx a b = a ∨ mx a b = b) := by unfold mx; split <;> omega

theorem ev_const {α : Type} {a : Option α} {r : α} (h : a = some r) : Ev (fun _ => a) r := ⟨0, fun _ _ => h⟩

/-- Holders and known versions are valid for a lag. -/
structure VK (h k : List Int) (lag : Int) : Prop where
  len1 : 1 ≤ h.length
  len2 : h.length ≤ 30
  hold : ∀ i : Int, 0 ≤ i → i < h.length → -1 ≤ rd h i ∧ rd h i ≤ 7
  klen : k.length = 8
  lag0 : 0 ≤ lag
  lag1 : lag ≤ 10
  known : ∀ c : Int, 0 ≤ c → c < 8 → rd k c = -1 ∨ (0 ≤ rd k c ∧ (h.length : Int) - 1 - lag ≤ rd k c ∧ rd k c < h.length ∧ ∀ u : Int, 1 ≤ u → u < h.length → rd h u ≠ rd h (u - 1) → (rd h u = c ∨ rd h (u - 1) = c) → u ≤ rd k c)

theorem leastOK_iff (h : List Int) (c v : Int) : leastOK h c v = true ↔ ∀ u : Int, 1 ≤ u → u < h.length → rd h u ≠ rd h (u - 1) → (rd h u = c ∨ rd h (u - 1) = c) → u ≤ v := by
  unfold leastOK
  rw [List.all_eq_true]
  constructor
  · intro H u h1 h2 hne hor
    have := H u.toNat (List.mem_range.mpr (by omega))
    rw [show ((u.toNat : Nat) : Int) = u by omega] at this
    simp only [Bool.or_eq_true, decide_eq_true_eq, beq_iff_eq, Bool.not_eq_true', Bool.or_eq_false_iff, beq_eq_false_iff_ne] at this
    rcases this with ((h3 | h3) | h3) | h3
    · omega
    · exact absurd h3 hne
    · rcases hor with ho | ho
      · exact absurd ho h3.1
      · exact absurd ho h3.2
    · exact h3
  · intro H u hu
    rw [List.mem_range] at hu
    simp only [Bool.or_eq_true, decide_eq_true_eq, beq_iff_eq, Bool.not_eq_true', Bool.or_eq_false_iff, beq_eq_false_iff_ne]
    by_cases h0 : u = 0
    · exact .inl (.inl (.inl h0))
    · by_cases h1 : rd h u = rd h ((u : Int) - 1)
      · exact .inl (.inl (.inr h1))
      · by_cases h2 : rd h u = c ∨ rd h ((u : Int) - 1) = c
        · exact .inr (H u (by omega) (by omega) h1 h2)
        · exact .inl (.inr ⟨fun h3 => h2 (.inl h3), fun h3 => h2 (.inr h3)⟩)

theorem valid_iff (h k : List Int) (lag : Int) : validB h k lag = true ↔ VK h k lag := by
  constructor
  · intro H
    simp only [validB, Bool.and_eq_true, List.all_eq_true, decide_eq_true_eq, List.mem_range] at H
    obtain ⟨⟨⟨h1, h2⟩, h3⟩, h4⟩ := H
    have hh : 1 ≤ h.length ∧ h.length ≤ 30 := by simp [holdersB, inB] at h1; omega
    simp only [inB, Bool.and_eq_true, decide_eq_true_eq] at h3
    refine ⟨hh.1, hh.2, fun i a b => holdersB.at h1 i a b, h2, h3.1, h3.2, fun c c0 c8 => ?_⟩
    have := h4 c.toNat (by omega)
    simp only [okKnown, Bool.or_eq_true, beq_iff_eq, Bool.and_eq_true, decide_eq_true_eq] at this
    rw [show ((c.toNat : Nat) : Int) = c by omega] at this
    rcases this with h5 | ⟨⟨⟨h5, h6⟩, h7⟩, h8⟩
    · exact .inl h5
    · exact .inr ⟨h5, h6, h8, (leastOK_iff _ _ _).mp h7⟩
  · intro H
    simp only [validB, Bool.and_eq_true, List.all_eq_true, decide_eq_true_eq, List.mem_range]
    refine ⟨⟨⟨?_, H.klen⟩, ?_⟩, fun c hc => ?_⟩
    · simp only [holdersB, inB, Bool.and_eq_true, List.all_eq_true, decide_eq_true_eq]
      refine ⟨⟨by have := H.len1; omega, by have := H.len2; omega⟩, fun x hx => ?_⟩
      obtain ⟨i, hi, rfl⟩ := List.getElem_of_mem hx
      have := H.hold i (by omega) (by omega)
      simpa [rd, hi] using this
    · simp only [inB, Bool.and_eq_true, decide_eq_true_eq]; exact ⟨H.lag0, H.lag1⟩
    · simp only [okKnown, Bool.or_eq_true, beq_iff_eq, Bool.and_eq_true, decide_eq_true_eq]
      rcases H.known c (by omega) (by omega) with h5 | ⟨h5, h6, h7, h8⟩
      · exact .inl h5
      · exact .inr ⟨⟨⟨h5, h6⟩, (leastOK_iff _ _ _).mpr h8⟩, h7⟩

/-- How a call ends at its last hop. -/
def EndAt (h k : List Int) (z : HP) (e : Int) : Prop :=
  (e = 1 ∧ rd h z.f1 = z.f0) ∨ (e = 2 ∧ rd h z.f1 = -1 ∧ rd h z.f1 ≠ z.f0) ∨ (e = 3 ∧ 0 ≤ rd h z.f1 ∧ rd h z.f1 ≠ z.f0 ∧ rd k (rd h z.f1) = -1)
/-- A path: each hop follows from the one before it. -/
structure Path (h k : List Int) (c u : Int) (l : List HP) (e : Int) : Prop where
  ne : 0 < l.length
  first : rdH l 0 = ⟨c, mx (rd k c) u⟩
  next : ∀ i : Nat, i + 1 < l.length → rd h (rdH l i).f1 ≠ (rdH l i).f0 ∧ 0 ≤ rd h (rdH l i).f1 ∧ 0 ≤ rd k (rd h (rdH l i).f1) ∧
    rdH l (i + 1) = ⟨rd h (rdH l i).f1, mx (rd k (rd h (rdH l i).f1)) (rdH l i).f1⟩
  last : EndAt h k (rdH l (l.length - 1)) e

theorem rdH_cons_succ (x : HP) (l : List HP) (i : Nat) : rdH (x :: l) (i + 1) = rdH l i := by
  unfold rdH rd_T40
  simp only [Int.toNat_natCast, List.getD_cons_succ]
theorem rdH_cons_zero (x : HP) (l : List HP) : rdH (x :: l) 0 = x := by simp [rdH, rd_T40]

theorem decide_tells {h k : List Int} {lag : Int} (H : VK h k lag) (c u : Int) (c0 : 0 ≤ c) (c8 : c < 8) (hk : 0 ≤ rd k c) (u0 : -1 ≤ u) (u1 : u < h.length) :
    0 ≤ mx (rd k c) u ∧ mx (rd k c) u < h.length ∧
    ((∃ e : Int, e ≠ 0 ∧ route_decide.f h k c u = some (mx (rd k c) u, -1, e) ∧ EndAt h k ⟨c, mx (rd k c) u⟩ e) ∨
     (route_decide.f h k c u = some (mx (rd k c) u, rd h (mx (rd k c) u), 0) ∧ rd h (mx (rd k c) u) ≠ c ∧ 0 ≤ rd h (mx (rd k c) u) ∧ rd h (mx (rd k c) u) < 8 ∧ 0 ≤ rd k (rd h (mx (rd k c) u)))) := by
  have hkn := H.known c c0 c8
  have hm := mx_le (rd k c) u
  have hw0 : 0 ≤ mx (rd k c) u := by omega
  have hw1 : mx (rd k c) u < h.length := by rcases hm.2.2 with e | e <;> rw [e] <;> omega
  refine ⟨hw0, hw1, ?_⟩
  have hl := H.klen
  have hold := H.hold (mx (rd k c) u) hw0 hw1
  generalize hw : mx (rd k c) u = w at *
  unfold route_decide.f
  rw [hw, if_pos c0, if_pos (by omega), if_pos hw0, if_pos hw1]
  by_cases h1 : rd h w = c
  · rw [if_pos h1]; exact .inl ⟨1, by decide, rfl, .inl ⟨rfl, h1⟩⟩
  · rw [if_neg h1]
    by_cases h2 : rd h w < 0
    · rw [if_pos h2]; exact .inl ⟨2, by decide, rfl, .inr (.inl ⟨rfl, by show rd h w = -1; omega, h1⟩)⟩
    · rw [if_neg h2, if_pos (by omega), if_pos (by omega)]
      have hkn2 := H.known (rd h w) (by omega) (by omega)
      by_cases h3 : rd k (rd h w) < 0
      · rw [if_pos h3]; exact .inl ⟨3, by decide, rfl, .inr (.inr ⟨rfl, by show 0 ≤ rd h w; omega, h1, by show rd k (rd h w) = -1; omega⟩)⟩
      · rw [if_neg h3]; exact .inr ⟨rfl, h1, by omega, by omega, by omega⟩

theorem path_tells {h k : List Int} {lag : Int} (H : VK h k lag) : ∀ (m : Nat) (c u : Int), 0 ≤ c → c < 8 → 0 ≤ rd k c → -1 ≤ u → u < h.length → (u = -1 ∨ 0 ≤ u) →
    (2 * ((h.length : Int) - u) + (if rd h u = c ∧ 0 ≤ u then 0 else 1)).toNat ≤ m → ∃ xs, hopsE (m + 1) h k c u = some xs ∧ Path h k c u (xs.map Prod.fst) (lastEnd xs) := by
  intro m
  induction m with
  | zero =>
    intro c u c0 c8 hk u0 u1 _ hm
    exfalso
    split at hm <;> omega
  | succ m ih =>
    intro c u c0 c8 hk u0 u1 uu hm
    obtain ⟨w0, w1, ht⟩ := decide_tells H c u c0 c8 hk u0 u1
    have hmx := mx_le (rd k c) u
    generalize hw : mx (rd k c) u = w at *
    rcases ht with ⟨e, he, hd, hend⟩ | ⟨hd, hne, hn0, hn8, hkn⟩
    · refine ⟨[(⟨c, w⟩, e)], ?_, by simp, ?_, ?_, ?_⟩
      · unfold hopsE
        rw [hd]
        simp only [Option.bind_some]
        rw [if_neg he]
      · simp [rdH_cons_zero, hw]
      · intro i hi; simp at hi
      · simpa [rdH_cons_zero, lastEnd] using hend
    · obtain ⟨xs, hxs, hp⟩ := ih (rd h w) w hn0 hn8 hkn (by omega) w1 (.inr w0) (by
        rw [if_pos ⟨rfl, w0⟩]
        by_cases hwu : w = u
        · subst hwu
          rw [if_neg (fun hx => hne hx.1)] at hm
          omega
        · split at hm <;> omega)
      refine ⟨(⟨c, w⟩, 0) :: xs, ?_, by simp, ?_, ?_, ?_⟩
      · rw [hopsE, hd]
        simp only [Option.bind_some, if_true]
        rw [hxs]
        rfl
      · simp [rdH_cons_zero, hw]
      · intro i hi
        simp only [List.map_cons, List.length_cons] at hi ⊢
        cases i with
        | zero =>
          rw [rdH_cons_zero, rdH_cons_succ]
          exact ⟨hne, hn0, hkn, hp.first⟩
        | succ i =>
          rw [rdH_cons_succ, rdH_cons_succ]
          exact hp.next i (by omega)
      · have hpl := hp.ne
        have hle : lastEnd ((⟨c, w⟩, 0) :: xs) = lastEnd xs := by
          cases xs with
          | nil => simp at hpl
          | cons y ys => simp [lastEnd]
        rw [hle]
        simp only [List.map_cons, List.length_cons]
        have : (xs.map Prod.fst).length = (xs.map Prod.fst).length - 1 + 1 := by omega
        rw [Nat.add_sub_cancel, this, rdH_cons_succ]
        exact hp.last
/-- What holds of every hop of a path that begins with no version. -/
theorem Path.all {h k : List Int} {lag c e : Int} {l : List HP} (H : VK h k lag) (c0 : 0 ≤ c) (c8 : c < 8) (hk : 0 ≤ rd k c) (P : Path h k c (-1) l e) :
    ∀ i : Nat, i < l.length → 0 ≤ (rdH l i).f0 ∧ (rdH l i).f0 < 8 ∧ 0 ≤ rd k (rdH l i).f0 ∧ rd k (rdH l i).f0 ≤ (rdH l i).f1 ∧ 0 ≤ (rdH l i).f1 ∧ (rdH l i).f1 < h.length ∧ (h.length : Int) - 1 - lag ≤ (rdH l i).f1 := by
  intro i
  induction i with
  | zero =>
    intro _
    rw [P.first]
    have hkn := H.known c c0 c8
    have hm := mx_le (rd k c) (-1)
    refine ⟨c0, c8, hk, hm.1, by simp only; omega, by simp only; rcases hm.2.2 with e | e <;> rw [e] <;> omega, by simp only; omega⟩
  | succ i ih =>
    intro hi
    obtain ⟨a0, a1, a2, a3, a4, a5, a6⟩ := ih (by omega)
    obtain ⟨n1, n2, n3, n4⟩ := P.next i hi
    rw [n4]
    have hh := H.hold _ a4 a5
    have hkn := H.known (rd h (rdH l i).f1) n2 (by omega)
    have hm := mx_le (rd k (rd h (rdH l i).f1)) (rdH l i).f1
    refine ⟨n2, by simp only; omega, n3, hm.1, by simp only; omega, by simp only; rcases hm.2.2 with e | e <;> rw [e] <;> omega, by simp only; omega⟩
/-- The versions ascend, strictly but for the last two. -/
theorem Path.ascend {h k : List Int} {c e : Int} {l : List HP} (P : Path h k c (-1) l e) (i : Nat) (hi : i + 1 < l.length) :
    (rdH l i).f1 ≤ (rdH l (i + 1)).f1 ∧ (i + 2 < l.length → (rdH l i).f1 < (rdH l (i + 1)).f1) := by
  obtain ⟨n1, n2, n3, n4⟩ := P.next i hi
  have hm := mx_le (rd k (rd h (rdH l i).f1)) (rdH l i).f1
  have e0 : (rdH l (i + 1)).f0 = rd h (rdH l i).f1 := by rw [n4]
  have e1 : (rdH l (i + 1)).f1 = mx (rd k (rd h (rdH l i).f1)) (rdH l i).f1 := by rw [n4]
  refine ⟨by rw [e1]; exact hm.2.1, fun h2 => ?_⟩
  obtain ⟨m1, _⟩ := P.next (i + 1) h2
  rw [e0] at m1
  rcases Int.lt_or_eq_of_le (show (rdH l i).f1 ≤ (rdH l (i + 1)).f1 by rw [e1]; exact hm.2.1) with hlt | heq
  · exact hlt
  · rw [← heq] at m1
    exact absurd rfl m1
theorem Path.mono {h k : List Int} {c e : Int} {l : List HP} (P : Path h k c (-1) l e) (i : Nat) : ∀ d : Nat, i + d < l.length → (rdH l i).f1 ≤ (rdH l (i + d)).f1 := by
  intro d
  induction d with
  | zero => intro _; exact Int.le_refl _
  | succ d ih =>
    intro hd
    have := ih (by omega)
    have h2 := (P.ascend (i + d) (by omega)).1
    rw [show i + (d + 1) = i + d + 1 by omega]
    omega
theorem Path.low {h k : List Int} {lag c e : Int} {l : List HP} (H : VK h k lag) (c0 : 0 ≤ c) (c8 : c < 8) (hk : 0 ≤ rd k c) (P : Path h k c (-1) l e) :
    ∀ i : Nat, i + 1 < l.length → (h.length : Int) - 1 - lag + i ≤ (rdH l i).f1 := by
  intro i
  induction i with
  | zero => intro hi; have := (P.all H c0 c8 hk 0 (by omega)).2.2.2.2.2.2; omega
  | succ i ih =>
    intro hi
    have h1 := ih (by omega)
    have h2 := (P.ascend i (by omega)).2 hi
    omega
theorem Path.short {h k : List Int} {lag c e : Int} {l : List HP} (H : VK h k lag) (c0 : 0 ≤ c) (c8 : c < 8) (hk : 0 ≤ rd k c) (P : Path h k c (-1) l e) : (l.length : Int) ≤ lag + 2 := by
  have hl0 := H.lag0
  by_cases hl : l.length ≤ 1
  · omega
  · have h1 := P.low H c0 c8 hk (l.length - 2) (by omega)
    have h2 := (P.all H c0 c8 hk (l.length - 2) (by omega)).2.2.2.2.2.1
    omega
/-- Between two versions at which a number is held differently it changes hands. -/
theorem change {h : List Int} {c : Int} : ∀ (d : Nat) (a : Int), rd h a ≠ c → rd h (a + d) = c → ∃ v : Int, a < v ∧ v ≤ a + d ∧ rd h v = c ∧ rd h (v - 1) ≠ c := by
  intro d
  induction d with
  | zero => intro a h1 h2; rw [show a + ((0 : Nat) : Int) = a by omega] at h2; exact absurd h2 h1
  | succ d ih =>
    intro a h1 h2
    by_cases h3 : rd h (a + d) = c
    · obtain ⟨v, v1, v2, v3, v4⟩ := ih a h1 h3
      exact ⟨v, v1, by omega, v3, v4⟩
    · exact ⟨a + (d + 1 : Nat), by omega, by omega, h2, by rw [show a + ((d + 1 : Nat) : Int) - 1 = a + d by omega]; exact h3⟩
theorem Path.apart {h k : List Int} {lag c e : Int} {l : List HP} (H : VK h k lag) (c0 : 0 ≤ c) (c8 : c < 8) (hk : 0 ≤ rd k c) (P : Path h k c (-1) l e) (i j : Nat) (hij : i < j) (hj : j < l.length) :
    (rdH l i).f0 ≠ (rdH l j).f0 := by
  intro he
  obtain ⟨p, rfl⟩ : ∃ p, j = p + 1 := ⟨j - 1, by omega⟩
  obtain ⟨n1, n2, n3, n4⟩ := P.next p hj
  obtain ⟨a0, a1, a2, a3, a4, a5, a6⟩ := P.all H c0 c8 hk i (by omega)
  have hb := P.all H c0 c8 hk p (by omega)
  have e0 : (rdH l (p + 1)).f0 = rd h (rdH l p).f1 := by rw [n4]
  rw [e0] at he
  have hm := P.mono i (p - i) (by omega)
  rw [show i + (p - i) = p by omega] at hm
  have hi1 := (P.next i (by omega)).1
  obtain ⟨v, v1, v2, v3, v4⟩ := change (h := h) (c := (rdH l i).f0) ((rdH l p).f1 - (rdH l i).f1).toNat (rdH l i).f1 hi1 (by rw [show (rdH l i).f1 + ((((rdH l p).f1 - (rdH l i).f1).toNat : Nat) : Int) = (rdH l p).f1 by omega]; exact he.symm)
  rcases H.known _ a0 a1 with h1 | ⟨_, _, _, h4⟩
  · omega
  · have := h4 v (by omega) (by omega) (by rw [v3]; exact fun h => v4 h.symm) (.inl v3)
    omega
end Go.Proofs.Ytmiahmpobpokmaa.T24
