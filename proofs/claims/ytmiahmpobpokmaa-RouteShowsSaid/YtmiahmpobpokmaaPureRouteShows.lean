/- A path's account is right, and a changed hop is the one that is blamed. -/
import Derived.Test.YtmiahmpobpokmaaPx0
import Derived.Test.YtmiahmpobpokmaaPx10
import Derived.Test.YtmiahmpobpokmaaPx11
import Derived.Test.YtmiahmpobpokmaaPx28
import Derived.Test.YtmiahmpobpokmaaPx3
import Derived.Test.YtmiahmpobpokmaaPx4
import Derived.Test.YtmiahmpobpokmaaM24
import Derived.Test.YtmiahmpobpokmaaS24
namespace Go.Proofs.Ytmiahmpobpokmaa.Pure
open Go.RowKit Go.Proofs.Ytmiahmpobpokmaa.P Go.Proofs.Ytmiahmpobpokmaa.T24 Go.Proofs.YtmiahmpobpokmaaW.PrintWords Go.Proofs.YtmiahmpobpokmaaW.PrintLast Go.Proofs.YtmiahmpobpokmaaW.PrintMore
set_option linter.unusedVariables false

/-- The hop before, or a given one at the start. -/
def before (y : HP) (l : List HP) (t : Nat) : HP := if t = 0 then y else rdH l (t - 1)
theorem before_cons (y x : HP) (l : List HP) (t : Nat) : before y (x :: l) (t + 1) = before x l t := by
  unfold before
  rw [if_neg (by omega), Nat.add_sub_cancel]
  by_cases h : t = 0
  · subst h; rw [if_pos rfl]; simp [rdH, rd_T40]
  · rw [if_neg h]
    obtain ⟨s, rfl⟩ : ∃ s, t = s + 1 := ⟨t - 1, by omega⟩
    rw [Nat.add_sub_cancel]
    exact rdH_cons_succ x l s
theorem blame_none (h : List Int) (n : Nat) : ∀ (l : List HP) (i : Nat) (y : HP), (∀ t : Nat, t < l.length → badHop h n (i + t) (rdH l t) (before y l t) = false) → blameFrom h n i y l = -1
  | [], i, y, _ => by simp [blameFrom]
  | x :: l, i, y, H => by
    have h0 := H 0 (by simp)
    rw [rdH_cons_zero x l] at h0
    rw [show before y (x :: l) 0 = y by simp [before]] at h0
    rw [blameFrom, show badHop h n i x y = false from h0, if_neg (by decide)]
    refine blame_none h n l (i + 1) x (fun t ht => ?_)
    have := H (t + 1) (by simp; omega)
    rw [before_cons, show rdH (x :: l) (t + 1) = rdH l t from rdH_cons_succ x l t] at this
    rwa [show i + 1 + t = i + (t + 1) by omega]
theorem blame_some (h : List Int) (n : Nat) : ∀ (l : List HP) (i : Nat) (y : HP) (j : Nat), j < l.length → (∀ t : Nat, t < j → badHop h n (i + t) (rdH l t) (before y l t) = false) →
    badHop h n (i + j) (rdH l j) (before y l j) = true → blameFrom h n i y l = (i + j : Nat)
  | [], i, y, j, hj, _, _ => by simp at hj
  | x :: l, i, y, 0, hj, _, hb => by
    rw [rdH_cons_zero x l] at hb
    rw [show before y (x :: l) 0 = y by simp [before]] at hb
    rw [blameFrom, show badHop h n i x y = true from hb, if_pos rfl]
    rfl
  | x :: l, i, y, j + 1, hj, H, hb => by
    have h0 := H 0 (by omega)
    rw [rdH_cons_zero x l] at h0
    rw [show before y (x :: l) 0 = y by simp [before]] at h0
    rw [blameFrom, show badHop h n i x y = false from h0, if_neg (by decide)]
    have := blame_some h n l (i + 1) x j (by simp at hj; omega) (fun t ht => ?_) ?_
    · rw [this]; congr 1; omega
    · have := H (t + 1) (by omega)
      rw [before_cons, show rdH (x :: l) (t + 1) = rdH l t from rdH_cons_succ x l t] at this
      rwa [show i + 1 + t = i + (t + 1) by omega]
    · rw [before_cons, show rdH (x :: l) (j + 1) = rdH l j from rdH_cons_succ x l j] at hb
      rwa [show i + 1 + j = i + (j + 1) by omega]
theorem path_good {h k : List Int} {lag c e : Int} {p : List HP} (H : VK h k lag) (c0 : 0 ≤ c) (c8 : c < 8) (hk : 0 ≤ rd k c) (P : Path h k c (-1) p e) (y : HP) :
    ∀ t : Nat, t < p.length → badHop h p.length t (rdH p t) (before y p t) = false := by
  intro t ht
  obtain ⟨a0, a1, a2, a3, a4, a5, a6⟩ := P.all H c0 c8 hk t ht
  have e1 : inB (rdH p t).f0 0 7 = true := by simp only [inB, Bool.and_eq_true, decide_eq_true_eq]; omega
  have e2 : inB (rdH p t).f1 0 ((h.length : Int) - 1) = true := by simp only [inB, Bool.and_eq_true, decide_eq_true_eq]; omega
  have e3 : (decide (0 < t) && (!((rdH p t).f0 == rd h (before y p t).f1) || decide ((rdH p t).f1 < (before y p t).f1))) = false := by
    by_cases h0 : t = 0
    · subst h0; rfl
    · obtain ⟨s, rfl⟩ : ∃ s, t = s + 1 := ⟨t - 1, by omega⟩
      have hb : before y p (s + 1) = rdH p s := by unfold before; rw [if_neg (by omega), Nat.add_sub_cancel]
      obtain ⟨n1, n2, n3, n4⟩ := P.next s ht
      have ha := (P.ascend s ht).1
      rw [hb]
      have : (rdH p (s + 1)).f0 = rd h (rdH p s).f1 := by rw [n4]
      rw [this]
      simp
      omega
  have e4 : (decide (t + 1 < p.length) && (rd h (rdH p t).f1 == (rdH p t).f0 || rd h (rdH p t).f1 == -1)) = false := by
    by_cases h0 : t + 1 < p.length
    · obtain ⟨n1, n2, n3, n4⟩ := P.next t h0
      simp only [Bool.and_eq_false_iff, Bool.or_eq_false_iff, beq_eq_false_iff_ne]
      exact .inr ⟨n1, by omega⟩
    · simp [h0]
  unfold badHop
  rw [e1, e2, e3, e4]
  rfl
theorem vk_holders {h k : List Int} {lag : Int} (H : VK h k lag) : holdersB h = true := by
  have := (valid_iff h k lag).mpr H
  simp only [validB, Bool.and_eq_true] at this
  exact this.1.1.1
theorem right_none {h k : List Int} {lag c e : Int} {p : List HP} (H : VK h k lag) (c0 : 0 ≤ c) (c8 : c < 8) (hk : 0 ≤ rd k c) (P : Path h k c (-1) p e) :
    route_Blame.f h p = some (-1) ∧ route_Right.f h p = some true := by
  have hne := P.ne
  have h1 : route_Blame.f h p = some (-1) := by
    unfold route_Blame.f
    rw [if_pos ⟨vk_holders H, by intro hp; rw [hp] at hne; simp at hne⟩, blame_none h p.length p 0 _ (fun t ht => by rw [Nat.zero_add]; exact path_good H c0 c8 hk P _ t ht)]
  refine ⟨h1, ?_⟩
  unfold route_Right.f
  rw [h1]
  rfl
theorem right_some {h k : List Int} {lag c e : Int} {p : List HP} (H : VK h k lag) (c0 : 0 ≤ c) (c8 : c < 8) (hk : 0 ≤ rd k c) (P : Path h k c (-1) p e)
    (l : List HP) (j : Nat) (hl : l.length = p.length) (hj0 : 0 < j) (hj : j < p.length) (hs : ∀ t : Nat, t < j → rdH l t = rdH p t) (hb : badHop h p.length j (rdH l j) (rdH p (j - 1)) = true) :
    route_Blame.f h l = some (j : Int) ∧ route_Right.f h l = some false := by
  have h1 : route_Blame.f h l = some (j : Int) := by
    unfold route_Blame.f
    have hbe : ∀ t : Nat, t ≤ j → before z40 l t = before z40 p t := by
      intro t ht
      unfold before
      by_cases h0 : t = 0
      · rw [if_pos h0, if_pos h0]
      · rw [if_neg h0, if_neg h0]
        exact hs (t - 1) (by omega)
    have hx := blame_some h p.length l 0 z40 j (by omega) (by
      intro t ht
      rw [Nat.zero_add, hs t ht, hbe t (by omega)]
      exact path_good H c0 c8 hk P z40 t (by omega)) (by
      rw [Nat.zero_add, hbe j (Nat.le_refl j)]
      unfold before
      rw [if_neg (by omega)]
      exact hb)
    rw [if_pos ⟨vk_holders H, by intro hp; rw [hp] at hl; simp at hl; omega⟩, hl, hx, Nat.zero_add]
  refine ⟨h1, ?_⟩
  unfold route_Right.f
  rw [h1]
  simp
theorem rdH_set (l : List HP) (j t : Nat) (v : HP) (hj : j < l.length) : rdH (l.set j v) t = if t = j then v else rdH l t := by
  unfold rdH rd_T40
  rw [Int.toNat_natCast]
  by_cases h : t = j
  · rw [if_pos h, h]; simp [hj]
  · rw [if_neg h]; simp [List.getD_eq_getElem?_getD, List.getElem?_set_ne (Ne.symm h)]
theorem rd_rdH (l : List HP) (i : Nat) : rd_T40 l (i : Int) = rdH l i := rfl
/-- A hop with a version below the one before it is bad. -/
theorem bad_low {h : List Int} {n q : Nat} {v y : HP} (q0 : 0 < q) (hv : v.f1 < y.f1) : badHop h n q v y = true := by
  unfold badHop
  have : (decide (0 < q) && (!(v.f0 == rd h y.f1) || decide (v.f1 < y.f1))) = true := by
    rw [show decide (v.f1 < y.f1) = true from decide_eq_true hv, show decide (0 < q) = true from decide_eq_true q0]
    simp
  rw [this]
  simp
theorem bad_who {h : List Int} {n q : Nat} {v y : HP} (q0 : 0 < q) (hv : v.f0 ≠ rd h y.f1) : badHop h n q v y = true := by
  unfold badHop
  have : (decide (0 < q) && (!(v.f0 == rd h y.f1) || decide (v.f1 < y.f1))) = true := by
    rw [show (v.f0 == rd h y.f1) = false from beq_eq_false_iff_ne.mpr hv, show decide (0 < q) = true from decide_eq_true q0]
    rfl
  rw [this]
  simp
theorem shows_low {h k : List Int} {lag c e z : Int} {p : List HP} (H : VK h k lag) (c0 : 0 ≤ c) (c8 : c < 8) (hk : 0 ≤ rd k c) (P : Path h k c (-1) p e) (hz : I64 z)
    (q : Nat) (q0 : 0 < q) (hq1 : q < p.length) (A : HP) : Ev (fun n => dialtonelaw24_RouteShows.j1 n z h p q (p.set q A) false) true := by
  have hs := P.short H c0 c8 hk
  have hl1 := H.lag1
  have hH2 := H.len2
  obtain ⟨r, hr, r0, r3⟩ := pick_tells z 3 hz (by omega)
  have e4 : wrap64 ((q : Int) - 1) = ((q - 1 : Nat) : Int) := by rw [w64 (by unfold I64; omega)]; omega
  obtain ⟨a0, a1, a2, a3, a4, a5, a6⟩ := P.all H c0 c8 hk (q - 1) (by omega)
  have e5 : wrap64 (wrap64 ((rdH p (q - 1)).f1 - 1) - r) = (rdH p (q - 1)).f1 - 1 - r := by rw [w64 (x := (rdH p (q - 1)).f1 - 1) (by unfold I64; omega), w64 (by unfold I64; omega)]
  refine Ev.step (f := fun _ => some true) (fun n => ?_) (Ev.now _)
  have two : ∀ (B : HP) (f0 : Int), route_Blame.f h (((p.set q A).set q B).set q ⟨f0, wrap64 (wrap64 ((rdH p (q - 1)).f1 - 1) - r)⟩) = some (q : Int) ∧ route_Right.f h (((p.set q A).set q B).set q ⟨f0, wrap64 (wrap64 ((rdH p (q - 1)).f1 - 1) - r)⟩) = some false := by
    intro B f0
    refine right_some H c0 c8 hk P _ q (by simp) (by omega) hq1 (fun t ht => ?_) ?_
    · rw [rdH_set _ _ _ _ (by simp; exact hq1), if_neg (by omega), rdH_set _ _ _ _ (by simp; exact hq1), if_neg (by omega), rdH_set _ _ _ _ hq1, if_neg (by omega)]
    · rw [rdH_set _ _ _ _ (by simp; exact hq1), if_pos rfl]
      exact bad_low q0 (by rw [e5]; show (rdH p (q - 1)).f1 - 1 - r < (rdH p (q - 1)).f1; omega)
  simp only [dialtonelaw24_RouteShows.j1, lawpick_eq, hr, Option.bind_some, e4, Int.toNat_natCast, List.length_set, rd_rdH]
  rw [if_neg (by decide), if_pos (by omega), if_pos (by omega), if_pos (by omega), if_pos (by omega), if_pos (by omega)]
  have hw := two ⟨(rdH p q).f0, (rdH p q).f1⟩ (rdH ((p.set q A).set q ⟨(rdH p q).f0, (rdH p q).f1⟩) q).f0
  rw [show route_Right.f h _ = some false from hw.2]
  simp only [Option.bind_some]
  rw [if_neg (by decide), show route_Blame.f h _ = some (q : Int) from hw.1]
  simp
theorem shows_rest {h k : List Int} {lag c e j z : Int} {p : List HP} (H : VK h k lag) (c0 : 0 ≤ c) (c8 : c < 8) (hk : 0 ≤ rd k c) (P : Path h k c (-1) p e) (hj : I64 j) (hz : I64 z) :
    Ev (fun n => dialtonelaw24_RouteShows.j0 n j z true h p false) true := by
  have hs := P.short H c0 c8 hk
  have hl1 := H.lag1
  by_cases h2 : (p.length : Int) < 2
  · refine Ev.step (f := fun _ => some true) (fun n => ?_) (Ev.now _)
    simp only [dialtonelaw24_RouteShows.j0]
    rw [if_neg (by decide), if_pos h2]
  · have e2 : wrap64 ((p.length : Int) - 1) = (p.length : Int) - 1 := w64 (by unfold I64; omega)
    obtain ⟨b, hb, b0, b1⟩ := pick_tells j ((p.length : Int) - 1) hj (by omega)
    obtain ⟨q, hq⟩ : ∃ q : Nat, (q : Int) = 1 + b := ⟨(1 + b).toNat, by omega⟩
    have e3 : wrap64 (1 + b) = (q : Int) := by rw [w64 (by unfold I64; omega)]; omega
    have hq1 : q < p.length := by omega
    have low := shows_low (z := z) H c0 c8 hk P hz q (by omega) hq1 ⟨z, (rdH p q).f1⟩
    refine Ev.step (fun n => ?_) low
    simp only [dialtonelaw24_RouteShows.j0, e2, lawpick_eq, hb, Option.bind_some, e3, Int.toNat_natCast, List.nil_append, List.length_nil, Nat.zero_add, rd_rdH]
    rw [if_neg (by decide), if_neg h2, if_pos (by omega), if_pos (by omega), if_pos (by omega), if_pos (by omega)]
    by_cases hzz : z = (rdH p q).f0
    · rw [if_pos hzz]
    · rw [if_neg hzz]
      have hf0 : (rdH p q).f0 = rd h (rdH p (q - 1)).f1 := by
        obtain ⟨s, rfl⟩ : ∃ s, q = s + 1 := ⟨q - 1, by omega⟩
        obtain ⟨n1, n2, n3, n4⟩ := P.next s hq1
        rw [Nat.add_sub_cancel, n4]
      have ho := right_some H c0 c8 hk P (p.set q ⟨z, (rdH p q).f1⟩) q (by simp) (by omega) hq1 (fun t ht => by rw [rdH_set _ _ _ _ hq1, if_neg (by omega)]) (by
        rw [rdH_set _ _ _ _ hq1, if_pos rfl]; exact bad_who (by omega) (by rw [← hf0]; exact hzz))
      rw [show route_Right.f h _ = some false from ho.2]
      simp only [Option.bind_some]
      rw [if_neg (by decide), show route_Blame.f h _ = some (q : Int) from ho.1]
      simp only [Option.bind_some, bne_self_eq_false]
theorem RouteShows : dialtonelaw24_RouteShows.Pure := by
  intro x y lag c j z hx1 hx2 hx hy1 hy2 hy hlag hc hj hz
  apply Ev.rounds
  obtain ⟨h, kn, l, s2, H, hle, hpl⟩ := made_tells x y lag (fun v hv => i64_of (hx v hv)) (fun v hv => i64_of (hy v hv)) (i64_of hlag)
  obtain ⟨d, hd, d0, d8⟩ := pick_tells c 8 (i64_of hc) (by omega)
  unfold dialtonelaw24_RouteShows.f
  refine Ev.bind sane_ev ?_
  simp only [if_true]
  refine Ev.bind s2 ?_
  refine Ev.bind (ev_const ((lawpick_eq c 8).trans hd)) ?_
  by_cases hk : 0 ≤ rd kn d
  · obtain ⟨p, e, s3, P⟩ := path_ev H d0 d8 hk
    obtain ⟨hB, hR⟩ := right_none H d0 d8 hk P
    refine Ev.bind s3 ?_
    refine Ev.congr (fun n => ?_) (shows_rest H d0 d8 hk P (i64_of hj) (i64_of hz))
    dsimp only
    rw [if_pos rfl, hR]
    simp only [Option.bind_some, if_true]
    rw [hB]
    rfl
  · refine Ev.bind (path_down H d0 d8 hk) ?_
    exact Ev.now _
end Go.Proofs.Ytmiahmpobpokmaa.Pure
