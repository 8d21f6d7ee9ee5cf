/- The plain law of routes: what the reference's makers of inputs make is valid. -/
import Derived.Test.YtmiahmpobpokmaaPx0
import Derived.Test.YtmiahmpobpokmaaPx13
import Derived.Test.YtmiahmpobpokmaaPx14
import Derived.Test.YtmiahmpobpokmaaPx15
import Derived.Test.YtmiahmpobpokmaaPx3
import Derived.Test.YtmiahmpobpokmaaPx4
import Derived.Test.YtmiahmpobpokmaaPx5
import Derived.Test.YtmiahmpobpokmaaPx6
import Derived.Test.YtmiahmpobpokmaaT24
namespace Go.Proofs.Ytmiahmpobpokmaa.T24
open Go.RowKit Go.Proofs.Ytmiahmpobpokmaa.P Go.Proofs.YtmiahmpobpokmaaW.PrintWords Go.Proofs.YtmiahmpobpokmaaW.PrintLast Go.Proofs.YtmiahmpobpokmaaW.PrintMore
set_option linter.unusedVariables false

def I64 (x : Int) : Prop := -9223372036854775808 ≤ x ∧ x ≤ 9223372036854775807
theorem i64_of {x : Int} (h : (Lit.int .i64 x).wf = true) : I64 x := by
  simp only [Lit.wf, IntKind.min, IntKind.max, IntKind.signed, IntKind.bits, Bool.and_eq_true, decide_eq_true_eq, if_true] at h
  unfold I64
  omega
theorem w64 {x : Int} (h : I64 x) : wrap64 x = x := by unfold wrap64; unfold I64 at h; omega
theorem tmod_tells {a n : Int} (ha : 0 ≤ a) (hn : 0 < n) : 0 ≤ Int.tmod a n ∧ Int.tmod a n < n := by
  rw [Int.tmod_eq_emod_of_nonneg ha]
  exact ⟨Int.emod_nonneg _ (by omega), Int.emod_lt_of_pos _ hn⟩
theorem tdiv_i64 {m : Int} (h : I64 m) : I64 (Int.tdiv m 16) := by
  unfold I64 at *
  rcases Int.le_total 0 m with h0 | h0
  · rw [Int.tdiv_eq_ediv_of_nonneg h0]; omega
  · obtain ⟨a, rfl⟩ : ∃ a, m = -a := ⟨-m, by omega⟩
    rw [Int.neg_tdiv, Int.tdiv_eq_ediv_of_nonneg (by omega)]; omega
theorem pick_tells (c n : Int) (hc : I64 c) (hn : 0 < n) : ∃ r, dialtoneref24_pick.f c n = some r ∧ 0 ≤ r ∧ r < n := by
  unfold dialtoneref24_pick.f
  by_cases h : c < 0
  · rw [if_pos h, if_neg (by omega)]
    rw [w64 (x := c + 1) (by unfold I64 at *; omega), w64 (by unfold I64 at *; omega)]
    exact ⟨_, rfl, tmod_tells (by omega) hn⟩
  · rw [if_neg h, if_neg (by omega)]
    exact ⟨_, rfl, tmod_tells (by omega) hn⟩
theorem lawpick_eq (c n : Int) : dialtonelaw24_pick.f c n = dialtoneref24_pick.f c n := rfl

/-- From r on a carrier's version is valid. -/
def From (h : List Int) (lag c r : Int) : Prop :=
  0 ≤ r ∧ r < h.length ∧ (h.length : Int) - 1 - lag ≤ r ∧ ∀ u : Int, 1 ≤ u → u < h.length → rd h u ≠ rd h (u - 1) → (rd h u = c ∨ rd h (u - 1) = c) → u ≤ r
theorem least_tells (h : List Int) (lag c : Int) (h1 : 1 ≤ h.length) (h2 : h.length ≤ 30) (l0 : 0 ≤ lag) (l1 : lag ≤ 10) : ∃ r, Ev (fun k => dialtoneref24_Least.f k h lag c) r ∧ From h lag c r := by
  have hN : wrap64 ((h.length : Int) - 1) = (h.length : Int) - 1 := w64 (by unfold I64; omega)
  have hL : wrap64 (wrap64 ((h.length : Int) - 1) - lag) = (h.length : Int) - 1 - lag := by rw [hN]; exact w64 (by unfold I64; omega)
  have key : ∀ (d : Nat) (v x : Int), 1 ≤ v → v ≤ h.length → (h.length : Int) - v = d → 0 ≤ x → x < h.length → (h.length : Int) - 1 - lag ≤ x →
      (∀ u : Int, 1 ≤ u → u < v → rd h u ≠ rd h (u - 1) → (rd h u = c ∨ rd h (u - 1) = c) → u ≤ x) →
      ∃ r, Ev (fun k => dialtoneref24_Least.l0 k h c ((h.length : Int) - 1) x v) r ∧ From h lag c r := by
    intro d
    induction d with
    | zero =>
      intro v x v1 v2 hd x0 x1 x2 hx
      refine ⟨x, Ev.step (f := fun _ => some x) (fun k => ?_) (Ev.now _), x0, x1, x2, fun u a b => hx u a (by omega)⟩
      simp only [dialtoneref24_Least.l0]
      rw [if_neg (by omega)]
    | succ d ih =>
      intro v x v1 v2 hd x0 x1 x2 hx
      have hw1 : wrap64 (v - 1) = v - 1 := w64 (by unfold I64; omega)
      have hw2 : wrap64 (v + 1) = v + 1 := w64 (by unfold I64; omega)
      have hmx := mx_le x v
      by_cases e1 : rd h v = rd h (v - 1)
      · obtain ⟨r, hr, hf⟩ := ih (v + 1) x (by omega) (by omega) (by omega) x0 x1 x2 (fun u a b hne hor => by
          by_cases hu : u = v
          · subst hu; exact absurd e1 hne
          · exact hx u a (by omega) hne hor)
        refine ⟨r, Ev.step (fun k => ?_) hr, hf⟩
        simp only [dialtoneref24_Least.l0]
        rw [if_pos (by omega), if_pos (by omega), if_pos (by omega), hw1, hw2, if_pos (by omega), if_pos (by omega), if_pos e1]
      · have hy : ∃ r, Ev (fun k => dialtoneref24_Least.l0 k h c ((h.length : Int) - 1) (mx x v) (v + 1)) r ∧ From h lag c r :=
          ih (v + 1) (mx x v) (by omega) (by omega) (by omega) (by omega) (by rcases hmx.2.2 with e | e <;> rw [e] <;> omega) (by omega) (fun u a b hne hor => by
            by_cases hu : u = v
            · subst hu; exact hmx.2.1
            · exact Int.le_trans (hx u a (by omega) hne hor) hmx.1)
        by_cases e2 : rd h v = c
        · obtain ⟨r, hr, hf⟩ := hy
          refine ⟨r, Ev.step (fun k => ?_) hr, hf⟩
          simp only [dialtoneref24_Least.l0]
          rw [if_pos (by omega), if_pos (by omega), if_pos (by omega), hw1, hw2, if_pos (by omega), if_pos (by omega), if_neg e1, if_pos e2]
        · by_cases e3 : rd h (v - 1) = c
          · obtain ⟨r, hr, hf⟩ := hy
            refine ⟨r, Ev.step (fun k => ?_) hr, hf⟩
            simp only [dialtoneref24_Least.l0]
            rw [if_pos (by omega), if_pos (by omega), if_pos (by omega), hw1, hw2, if_pos (by omega), if_pos (by omega), if_neg e1, if_neg e2, if_pos e3]
          · obtain ⟨r, hr, hf⟩ := ih (v + 1) x (by omega) (by omega) (by omega) x0 x1 x2 (fun u a b hne hor => by
              by_cases hu : u = v
              · subst hu; rcases hor with ho | ho
                · exact absurd ho e2
                · exact absurd ho e3
              · exact hx u a (by omega) hne hor)
            refine ⟨r, Ev.step (fun k => ?_) hr, hf⟩
            simp only [dialtoneref24_Least.l0]
            rw [if_pos (by omega), if_pos (by omega), if_pos (by omega), hw1, hw2, if_pos (by omega), if_pos (by omega), if_neg e1, if_neg e2, if_neg e3]
  have hm := mx_le 0 ((h.length : Int) - 1 - lag)
  obtain ⟨r, hr, hf⟩ := key (h.length - 1) 1 (mx 0 ((h.length : Int) - 1 - lag)) (by omega) (by omega) (by omega) hm.1 (by rcases hm.2.2 with e | e <;> rw [e] <;> omega) hm.2.1 (fun u a b => by omega)
  refine ⟨r, Ev.congr (fun k => ?_) hr, hf⟩
  unfold dialtoneref24_Least.f
  rw [hL, hN]

theorem rd_append_lt (xs ys : List Int) (i : Nat) (h : i < xs.length) : rd (xs ++ ys) i = rd xs i := by simp [rd, List.getElem?_append_left, h]
theorem rd_append_eq (xs : List Int) (y : Int) : rd (xs ++ [y]) xs.length = y := by simp [rd]
theorem rd_i64 {y : List Int} (hy : ∀ x ∈ y, I64 x) (i : Int) : I64 (rd y i) := by
  unfold rd
  rw [List.getD_eq_getElem?_getD]
  cases h : y[i.toNat]? with
  | none => simp [I64]
  | some v => exact hy v (List.mem_of_getElem? h)

theorem known_tells (h y : List Int) (lag : Int) (h1 : 1 ≤ h.length) (h2 : h.length ≤ 30) (l0 : 0 ≤ lag) (l1 : lag ≤ 10) (hy : ∀ x ∈ y, I64 x) :
    ∃ kn, Ev (fun k => dialtoneref24_Known.f k h lag y) kn ∧ kn.length = 8 ∧ ∀ c : Nat, c < 8 → rd kn c = -1 ∨ From h lag c (rd kn c) := by
  have key : ∀ (d : Nat) (xs : List Int), xs.length + d = 8 → (∀ c : Nat, c < xs.length → rd xs c = -1 ∨ From h lag c (rd xs c)) →
      ∃ kn, Ev (fun k => dialtoneref24_Known.l0 k h lag y xs xs.length) kn ∧ kn.length = 8 ∧ ∀ c : Nat, c < 8 → rd kn c = -1 ∨ From h lag c (rd kn c) := by
    intro d
    induction d with
    | zero =>
      intro xs hd hx
      refine ⟨xs, Ev.step (f := fun _ => some xs) (fun k => ?_) (Ev.now _), by omega, fun c hc => hx c (by omega)⟩
      simp only [dialtoneref24_Known.l0]
      rw [if_neg (by omega)]
    | succ d ih =>
      intro xs hd hx
      obtain ⟨r, hr, f0, f1, f2, f3⟩ := least_tells h lag xs.length h1 h2 l0 l1
      have hw2 : wrap64 ((xs.length : Int) + 1) = ((xs.length + 1 : Nat) : Int) := by rw [w64 (by unfold I64; omega)]; omega
      have body : ∀ m : Int, I64 m → ∃ kn, Ev (fun k => dialtoneref24_Known.j1 k h lag y xs xs.length r m) kn ∧ kn.length = 8 ∧ ∀ c : Nat, c < 8 → rd kn c = -1 ∨ From h lag c (rd kn c) := by
        intro m hm
        obtain ⟨a, ha, a0, a1⟩ := pick_tells (Int.tdiv m 16) ((h.length : Int) - r) (tdiv_i64 hm) (by omega)
        obtain ⟨b, hb, b0, b1⟩ := pick_tells m 16 hm (by omega)
        have e1 : wrap64 (Int.tdiv m 16) = Int.tdiv m 16 := w64 (tdiv_i64 hm)
        have e2 : wrap64 ((h.length : Int) - r) = (h.length : Int) - r := w64 (by unfold I64; omega)
        have e3 : wrap64 (r + a) = r + a := w64 (by unfold I64; omega)
        by_cases h15 : b = 15
        · obtain ⟨kn, hk, hl, hok⟩ := ih (xs ++ [-1]) (by simp; omega) (fun c hc => by
            rcases Nat.lt_or_ge c xs.length with hlt | hge
            · rw [rd_append_lt _ _ _ hlt]; exact hx c hlt
            · have : c = xs.length := by simp at hc; omega
              subst this; rw [rd_append_eq]; exact .inl rfl)
          refine ⟨kn, Ev.step (fun k => ?_) hk, hl, hok⟩
          simp only [dialtoneref24_Known.j1]
          rw [e1, e2, ha, hb]
          simp only [Option.bind_some]
          rw [if_pos h15, if_pos (by omega), hw2]
          simp
        · obtain ⟨kn, hk, hl, hok⟩ := ih (xs ++ [r + a]) (by simp; omega) (fun c hc => by
            rcases Nat.lt_or_ge c xs.length with hlt | hge
            · rw [rd_append_lt _ _ _ hlt]; exact hx c hlt
            · have : c = xs.length := by simp at hc; omega
              subst this; rw [rd_append_eq]
              exact .inr ⟨by omega, by omega, by omega, fun u u1 u2 hne hor => by have := f3 u u1 u2 hne hor; omega⟩)
          refine ⟨kn, Ev.step (fun k => ?_) hk, hl, hok⟩
          simp only [dialtoneref24_Known.j1]
          rw [e1, e2, ha, hb]
          simp only [Option.bind_some]
          rw [if_neg h15, if_pos (by omega), hw2, e3]
          simp
      by_cases hlt : (xs.length : Int) < (y.length : Int)
      · obtain ⟨kn, hk, hl, hok⟩ := body (rd y xs.length) (rd_i64 hy _)
        refine ⟨kn, Ev.step (fun k => ?_) (Ev.bind (f := fun k r => dialtoneref24_Known.j1 k h lag y xs xs.length r (rd y xs.length)) hr hk), hl, hok⟩
        simp only [dialtoneref24_Known.l0]
        rw [if_pos (by omega)]
        simp only [if_pos hlt, if_pos (show (0 : Int) ≤ xs.length by omega)]
      · obtain ⟨kn, hk, hl, hok⟩ := body 0 (by simp [I64])
        refine ⟨kn, Ev.step (fun k => ?_) (Ev.bind (f := fun k r => dialtoneref24_Known.j1 k h lag y xs xs.length r 0) hr hk), hl, hok⟩
        simp only [dialtoneref24_Known.l0]
        rw [if_pos (by omega)]
        simp only [if_neg hlt]
  exact key 8 [] rfl (fun c hc => by simp at hc)
theorem known_valid (h y : List Int) (lag : Int) (h1 : 1 ≤ h.length) (h2 : h.length ≤ 30) (hh : ∀ i : Int, 0 ≤ i → i < h.length → -1 ≤ rd h i ∧ rd h i ≤ 7) (l0 : 0 ≤ lag) (l1 : lag ≤ 10) (hy : ∀ x ∈ y, I64 x) :
    ∃ kn, Ev (fun k => dialtoneref24_Known.f k h lag y) kn ∧ VK h kn lag := by
  obtain ⟨kn, hk, hl, hok⟩ := known_tells h y lag h1 h2 l0 l1 hy
  refine ⟨kn, hk, h1, h2, hh, hl, l0, l1, fun c c0 c8 => ?_⟩
  have := hok c.toNat (by omega)
  rw [show ((c.toNat : Nat) : Int) = c by omega] at this
  rcases this with h | ⟨a, b, d, e⟩
  · exact .inl h
  · exact .inr ⟨a, d, b, e⟩
theorem made_tells (x y : List Int) (lag : Int) (hx : ∀ v ∈ x, I64 v) (hy : ∀ v ∈ y, I64 v) (hl : I64 lag) :
    ∃ h kn l, Ev (fun k => dialtoneref24_Made.f k x y lag) (h, kn, l) ∧ VK h kn l ∧ h.length ≤ 12 ∧ dialtoneref24_pick.f lag 11 = some l := by
  obtain ⟨l, hpl, l0, l1⟩ := pick_tells lag 11 hl (by omega)
  have key : ∀ (d : Nat) (h : List Int), 1 ≤ h.length → h.length + d = 12 → (∀ i : Int, 0 ≤ i → i < h.length → -1 ≤ rd h i ∧ rd h i ≤ 7) →
      ∃ h' kn, Ev (fun k => dialtoneref24_Made.l0 k x y lag h h.length) (h', kn, l) ∧ VK h' kn l ∧ h'.length ≤ 12 := by
    intro d
    induction d with
    | zero =>
      intro h h1 hd hh
      obtain ⟨kn, hk, hv⟩ := known_valid h y l h1 (by omega) hh l0 (by omega) hy
      by_cases hlt : (h.length : Int) < (x.length : Int)
      · refine ⟨h, kn, Ev.step (fun k => ?_) (Ev.bind (f := fun _ z => some (h, z, l)) hk (Ev.now _)), hv, by omega⟩
        simp only [dialtoneref24_Made.l0]
        rw [if_pos hlt, if_neg (by omega), hpl]
        rfl
      · refine ⟨h, kn, Ev.step (fun k => ?_) (Ev.bind (f := fun _ z => some (h, z, l)) hk (Ev.now _)), hv, by omega⟩
        simp only [dialtoneref24_Made.l0]
        rw [if_neg hlt, hpl]
        rfl
    | succ d ih =>
      intro h h1 hd hh
      by_cases hlt : (h.length : Int) < (x.length : Int)
      · obtain ⟨a, ha, a0, a1⟩ := pick_tells (rd x h.length) 9 (rd_i64 hx _) (by omega)
        have e1 : wrap64 (a - 1) = a - 1 := w64 (by unfold I64; omega)
        have hw2 : wrap64 ((h.length : Int) + 1) = ((h.length + 1 : Nat) : Int) := by rw [w64 (by unfold I64; omega)]; omega
        obtain ⟨h', kn, hk, hv, hle⟩ := ih (h ++ [a - 1]) (by simp) (by simp; omega) (fun i i0 i1 => by
          have hi : i = ((i.toNat : Nat) : Int) := by omega
          rcases Nat.lt_or_ge i.toNat h.length with hlt | hge
          · rw [hi, rd_append_lt _ _ _ hlt, ← hi]; exact hh i i0 (by omega)
          · have : i.toNat = h.length := by simp at i1; omega
            rw [hi, this, rd_append_eq]; omega)
        refine ⟨h', kn, Ev.step (fun k => ?_) hk, hv, hle⟩
        simp only [dialtoneref24_Made.l0]
        rw [if_pos hlt, if_pos (by omega), if_pos (by omega), ha]
        simp only [Option.bind_some]
        rw [if_pos (by omega), e1, hw2]
        simp
      · obtain ⟨kn, hk, hv⟩ := known_valid h y l h1 (by omega) hh l0 (by omega) hy
        refine ⟨h, kn, Ev.step (fun k => ?_) (Ev.bind (f := fun _ z => some (h, z, l)) hk (Ev.now _)), hv, by omega⟩
        simp only [dialtoneref24_Made.l0]
        rw [if_neg hlt, hpl]
        rfl
  by_cases hx0 : (x.length : Int) > 0
  · obtain ⟨a, ha, a0, a1⟩ := pick_tells (rd x 0) 9 (rd_i64 hx _) (by omega)
    have e1 : wrap64 (a - 1) = a - 1 := w64 (by unfold I64; omega)
    obtain ⟨h', kn, hk, hv, hle⟩ := key 11 [a - 1] (by simp) (by simp) (fun i i0 i1 => by
      have : i = 0 := by simp at i1; omega
      subst this; simp [rd]; omega)
    refine ⟨h', kn, l, Ev.congr (fun k => ?_) (Ev.step (g := fun k => dialtoneref24_Made.j0 k x y lag [a - 1]) (fun k => rfl) hk), hv, hle, hpl⟩
    unfold dialtoneref24_Made.f
    simp only [Option.bind_some]
    rw [if_pos hx0, if_pos (by omega), ha]
    simp only [Option.bind_some]
    rw [if_pos (by simp), e1]
    rfl
  · obtain ⟨h', kn, hk, hv, hle⟩ := key 11 [0] (by simp) (by simp) (fun i i0 i1 => by
      have : i = 0 := by simp at i1; omega
      subst this; simp [rd])
    refine ⟨h', kn, l, Ev.congr (fun k => ?_) (Ev.step (g := fun k => dialtoneref24_Made.j0 k x y lag [0]) (fun k => rfl) hk), hv, hle, hpl⟩
    unfold dialtoneref24_Made.f
    simp only [Option.bind_some]
    rw [if_neg hx0]
theorem path_ev {h k : List Int} {lag c : Int} (H : VK h k lag) (c0 : 0 ≤ c) (c8 : c < 8) (hk : 0 ≤ rd k c) : ∃ l e, Ev (fun n => route_Path.f n h k lag c) (l, e, 0) ∧ Path h k c (-1) l e := by
  obtain ⟨xs, hxs, hp⟩ := path_tells H _ c (-1) c0 c8 hk (by omega) (by have := H.len1; omega) (.inl rfl) (Nat.le_refl _)
  refine ⟨_, _, Ev.of (fun n => route_Path.mono _ _ _ _ n) (k := (2 * ((h.length : Int) - -1) + (if rd h (-1) = c ∧ (0 : Int) ≤ -1 then 0 else 1)).toNat + 1) ?_, hp⟩
  have hcc : route_canCall.f h k lag c = some true := by
    unfold route_canCall.f route_Valid.f
    rw [(valid_iff h k lag).mpr H]
    have hl := H.klen
    simp only [Option.bind_some, if_true, route_isWithin.tells]
    have : inB c 0 7 = true := by simp [inB]; omega
    rw [this, if_pos rfl, if_pos c0, if_pos (by omega)]
    simp; omega
  unfold route_Path.f
  rw [hcc]
  simp only [Option.bind_some, if_true]
  rw [hxs]
  simp only [Option.bind_some]
  have hs := hp.short H c0 c8 hk
  have h1 := H.lag1
  rw [if_pos (by simp at hs; omega)]
theorem path_down {h k : List Int} {lag c : Int} (H : VK h k lag) (c0 : 0 ≤ c) (c8 : c < 8) (hk : ¬ 0 ≤ rd k c) : Ev (fun n => route_Path.f n h k lag c) ([], 0, 240) := by
  refine ⟨0, fun n _ => ?_⟩
  have hcc : route_canCall.f h k lag c = some false := by
    unfold route_canCall.f route_Valid.f
    rw [(valid_iff h k lag).mpr H]
    have hl := H.klen
    simp only [Option.bind_some, if_true, route_isWithin.tells]
    have : inB c 0 7 = true := by simp [inB]; omega
    rw [this, if_pos rfl, if_pos c0, if_pos (by omega)]
    simp; omega
  unfold route_Path.f
  rw [hcc]
  rfl
end Go.Proofs.Ytmiahmpobpokmaa.T24
