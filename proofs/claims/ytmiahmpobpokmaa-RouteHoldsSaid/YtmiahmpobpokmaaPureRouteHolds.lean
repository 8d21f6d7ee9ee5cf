/- A call's path: each version on it is known to be no newer than the last one, and the holder of the last version ends the call as told. -/
import Derived.Test.YtmiahmpobpokmaaPx0
import Derived.Test.YtmiahmpobpokmaaPx25
import Derived.Test.YtmiahmpobpokmaaM24
import Derived.Test.YtmiahmpobpokmaaS24
namespace Go.Proofs.Ytmiahmpobpokmaa.Pure
open Go.RowKit Go.Proofs.Ytmiahmpobpokmaa.P Go.Proofs.Ytmiahmpobpokmaa.T24 Go.Proofs.YtmiahmpobpokmaaW.PrintWords Go.Proofs.YtmiahmpobpokmaaW.PrintLast Go.Proofs.YtmiahmpobpokmaaW.PrintMore
set_option linter.unusedVariables false

theorem holds_loop {h k : List Int} {lag c e : Int} {l : List HP} (H : VK h k lag) (c0 : 0 ≤ c) (c8 : c < 8) (hk : 0 ≤ rd k c) (P : Path h k c (-1) l e) :
    ∀ (d i : Nat), i + d = l.length → Ev (fun n => dialtonelaw24_RouteHolds.l0 n h k l e i (rdH l (l.length - 1 : Nat)).f0 (rdH l (l.length - 1 : Nat)).f1) true := by
  have hs := P.short H c0 c8 hk
  have hl1 := H.lag1
  have hkl := H.klen
  have hne := P.ne
  have hz := P.all H c0 c8 hk (l.length - 1) (by omega)
  intro d
  induction d with
  | zero =>
    intro i hi
    refine Ev.step (f := fun _ => some true) (fun n => ?_) (Ev.now _)
    simp only [dialtonelaw24_RouteHolds.l0]
    have hh := H.hold _ hz.2.2.2.2.1 hz.2.2.2.2.2.1
    rw [if_neg (by omega), if_pos hz.2.2.2.2.1, if_pos hz.2.2.2.2.2.1]
    rcases P.last with ⟨rfl, h1⟩ | ⟨rfl, h1, h2⟩ | ⟨rfl, h1, h2, h3⟩
    · rw [if_pos rfl, h1]; simp
    · rw [if_neg (by decide), if_pos rfl, h1]; rfl
    · rw [if_neg (by decide), if_neg (by decide), if_pos rfl, if_pos h1, if_neg h2, if_pos h1, if_pos (by omega), h3]; rfl
  | succ d ih =>
    intro i hi
    have ha := P.all H c0 c8 hk i (by omega)
    have hm := P.mono i (l.length - 1 - i) (by omega)
    rw [show i + (l.length - 1 - i) = l.length - 1 by omega] at hm
    refine Ev.step (fun n => ?_) (ih (i + 1) (by omega))
    simp only [dialtonelaw24_RouteHolds.l0]
    change (if (i : Int) < l.length then (if 0 ≤ (i : Int) then (if (rdH l i).f0 < 0 then _ else if (rdH l i).f0 > 7 then _ else if 0 ≤ (rdH l i).f0 then (if (rdH l i).f0 < k.length then (if rd k (rdH l i).f0 < 0 then _ else if rd k (rdH l i).f0 > _ then _ else _) else _) else _) else _) else _) = _
    rw [if_pos (by omega), if_pos (by omega), if_neg (by omega), if_neg (by omega), if_pos (by omega), if_pos (by omega), if_neg (by omega), if_neg (by omega), w64 (by unfold I64; omega)]
    rfl
theorem RouteHolds : dialtonelaw24_RouteHolds.Pure := by
  intro x y lag c hx1 hx2 hx hy1 hy2 hy hlag hc
  apply Ev.rounds
  obtain ⟨h, kn, l, s2, H, hle, hpl⟩ := made_tells x y lag (fun v hv => i64_of (hx v hv)) (fun v hv => i64_of (hy v hv)) (i64_of hlag)
  obtain ⟨d, hd, d0, d8⟩ := pick_tells c 8 (i64_of hc) (by omega)
  have hl0 := H.lag0
  have hl1 := H.lag1
  unfold dialtonelaw24_RouteHolds.f
  refine Ev.bind sane_ev ?_
  simp only [if_true]
  refine Ev.bind s2 ?_
  refine Ev.bind (ev_const ((lawpick_eq c 8).trans hd)) ?_
  by_cases hk : 0 ≤ rd kn d
  · obtain ⟨p, e, s3, P⟩ := path_ev H d0 d8 hk
    have hs := P.short H d0 d8 hk
    have hne := P.ne
    have hz := P.all H d0 d8 hk (p.length - 1) (by omega)
    have hloop := holds_loop H d0 d8 hk P p.length 0 (by omega)
    have hj : Ev (fun n => dialtonelaw24_RouteHolds.j0 n h kn p e false (rdH p (p.length - 1 : Nat)).f0 (rdH p (p.length - 1 : Nat)).f1) true :=
      Ev.step (fun n => by simp only [dialtonelaw24_RouteHolds.j0]; rw [if_neg (by decide)]; rfl) hloop
    refine Ev.bind s3 ?_
    refine Ev.congr (fun n => ?_) hj
    have e2 : wrap64 ((p.length : Int) - 1) = ((p.length - 1 : Nat) : Int) := by rw [w64 (by unfold I64; omega)]; omega
    have e3 : wrap64 (wrap64 ((h.length : Int) - 1) - l) = (h.length : Int) - 1 - l := by rw [w64 (x := (h.length : Int) - 1) (by unfold I64; omega), w64 (by unfold I64; omega)]
    simp only [e2, e3]
    change (if (0 : Int) = 0 then (if (p.length : Int) = 0 then none else if 0 ≤ ((p.length - 1 : Nat) : Int) then (if ((p.length - 1 : Nat) : Int) < p.length then (if (rdH p (p.length - 1 : Nat)).f1 < 0 then _ else if (rdH p (p.length - 1 : Nat)).f1 ≥ h.length then _ else if (rdH p (p.length - 1 : Nat)).f1 < _ then _ else if (rdH p (p.length - 1 : Nat)).f0 < 0 then _ else dialtonelaw24_RouteHolds.j0 n h kn p e (decide ((rdH p (p.length - 1 : Nat)).f0 > 7)) (rdH p (p.length - 1 : Nat)).f0 (rdH p (p.length - 1 : Nat)).f1) else none) else none) else some ((0 : Int) == 240)) = _
    rw [if_pos rfl, if_neg (by omega), if_pos (by omega), if_pos (by omega), if_neg (by omega), if_neg (by omega), if_neg (by omega), if_neg (by omega),
      show decide ((rdH p (p.length - 1 : Nat)).f0 > 7) = false from decide_eq_false (by omega)]
  · refine Ev.bind (path_down H d0 d8 hk) ?_
    exact Ev.now _
end Go.Proofs.Ytmiahmpobpokmaa.Pure
