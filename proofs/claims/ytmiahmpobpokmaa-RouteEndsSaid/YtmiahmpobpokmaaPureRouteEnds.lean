/- A path of a call has at most lag + 2 hops, its versions ascend, strictly but for the last two, and no carrier has the call twice: for all integers that determine holders, known versions, a lag and a carrier. -/
import Derived.Test.YtmiahmpobpokmaaPx0
import Derived.Test.YtmiahmpobpokmaaPx24
import Derived.Test.YtmiahmpobpokmaaPx4
import Derived.Test.YtmiahmpobpokmaaM24
import Derived.Test.YtmiahmpobpokmaaS24
namespace Go.Proofs.Ytmiahmpobpokmaa.Pure
open Go.RowKit Go.Proofs.Ytmiahmpobpokmaa.P Go.Proofs.Ytmiahmpobpokmaa.T24 Go.Proofs.YtmiahmpobpokmaaW.PrintWords Go.Proofs.YtmiahmpobpokmaaW.PrintLast Go.Proofs.YtmiahmpobpokmaaW.PrintMore
set_option linter.unusedVariables false

theorem ends_inner {h k : List Int} {lag c e : Int} {l : List HP} (H : VK h k lag) (c0 : 0 ≤ c) (c8 : c < 8) (hk : 0 ≤ rd k c) (P : Path h k c (-1) l e) (b : Bool) (i : Nat) (hi : i < l.length)
    (next : Ev (fun n => dialtonelaw24_RouteEnds.l0 n b l ((i : Int) + 1)) b) : ∀ (d m : Nat), m + d = i → Ev (fun n => dialtonelaw24_RouteEnds.l1 n b l i m) b := by
  have hs := P.short H c0 c8 hk
  have hl1 := H.lag1
  intro d
  induction d with
  | zero =>
    intro m hm
    refine Ev.step (fun n => ?_) next
    simp only [dialtonelaw24_RouteEnds.l1]
    rw [if_neg (by omega), w64 (by unfold I64; omega)]
  | succ d ih =>
    intro m hm
    have hne := P.apart H c0 c8 hk m i (by omega) hi
    have := ih (m + 1) (by omega)
    refine Ev.step (fun n => ?_) this
    simp only [dialtonelaw24_RouteEnds.l1]
    rw [if_pos (by omega), if_pos (by omega), if_pos (by omega), if_pos (by omega), if_pos (by omega), if_neg (show ¬ (rd_T40 l (m : Int)).f0 = (rd_T40 l (i : Int)).f0 from hne), w64 (by unfold I64; omega)]
    rfl
theorem ends_loop {h k : List Int} {lag c e : Int} {l : List HP} (H : VK h k lag) (c0 : 0 ≤ c) (c8 : c < 8) (hk : 0 ≤ rd k c) (P : Path h k c (-1) l e) (b : Bool) :
    ∀ (d i : Nat), i + d = l.length → Ev (fun n => dialtonelaw24_RouteEnds.l0 n b l i) b := by
  have hs := P.short H c0 c8 hk
  have hl1 := H.lag1
  intro d
  induction d with
  | zero =>
    intro i hi
    refine Ev.step (f := fun _ => some b) (fun n => ?_) (Ev.now _)
    simp only [dialtonelaw24_RouteEnds.l0]
    rw [if_neg (by omega)]
  | succ d ih =>
    intro i hi
    have next := ih (i + 1) (by omega)
    have hin := ends_inner H c0 c8 hk P b i (by omega) next i 0 (by omega)
    have hj3 : Ev (fun n => dialtonelaw24_RouteEnds.j3 n b l i false) b := Ev.step (fun n => by simp only [dialtonelaw24_RouteEnds.j3]; rw [if_neg (by decide)]; rfl) hin
    refine Ev.step (fun n => ?_) hj3
    simp only [dialtonelaw24_RouteEnds.l0]
    rw [if_pos (by omega)]
    by_cases h0 : i = 0
    · subst h0; rw [if_neg (by decide)]
    · obtain ⟨p, rfl⟩ : ∃ p, i = p + 1 := ⟨i - 1, by omega⟩
      have ha := P.ascend p (by omega)
      have e1 : wrap64 (((p + 1 : Nat) : Int) - 1) = (p : Int) := by rw [w64 (by unfold I64; omega)]; omega
      have e2 : wrap64 ((l.length : Int) - 1) = (l.length : Int) - 1 := w64 (by unfold I64; omega)
      rw [if_pos (by omega), if_pos (by omega), e1, e2, if_pos (by omega), if_pos (by omega)]
      change (if (rdH l (p + 1)).f1 < (rdH l p).f1 then _ else if (rdH l (p + 1)).f1 = (rdH l p).f1 then _ else _) = _
      rw [if_neg (by omega)]
      by_cases he : (rdH l (p + 1)).f1 = (rdH l p).f1
      · rw [if_pos he]
        have : decide (((p + 1 : Nat) : Int) < (l.length : Int) - 1) = false := decide_eq_false (fun hlt => by have := ha.2 (by omega); omega)
        rw [this]
      · rw [if_neg he]
theorem RouteEnds : dialtonelaw24_RouteEnds.Pure := by
  intro x y lag c hx1 hx2 hx hy1 hy2 hy hlag hc
  apply Ev.rounds
  obtain ⟨h, kn, l, s2, H, hle, hpl⟩ := made_tells x y lag (fun v hv => i64_of (hx v hv)) (fun v hv => i64_of (hy v hv)) (i64_of hlag)
  obtain ⟨d, hd, d0, d8⟩ := pick_tells c 8 (i64_of hc) (by omega)
  have hkl := H.klen
  have hl0 := H.lag0
  have hl1 := H.lag1
  have hv : route_Valid.f h kn l = some true := by unfold route_Valid.f; rw [(valid_iff h kn l).mpr H]
  unfold dialtonelaw24_RouteEnds.f
  refine Ev.bind sane_ev ?_
  simp only [if_true]
  refine Ev.bind s2 ?_
  refine Ev.bind (ev_const ((lawpick_eq c 8).trans hd)) ?_
  by_cases hk : 0 ≤ rd kn d
  · obtain ⟨p, e, s3, P⟩ := path_ev H d0 d8 hk
    have hs := P.short H d0 d8 hk
    have hne := P.ne
    have hloop := ends_loop H d0 d8 hk P true p.length 0 (by omega)
    have hj1 : Ev (fun n => dialtonelaw24_RouteEnds.j1 n true p false) true := Ev.step (fun n => by simp only [dialtonelaw24_RouteEnds.j1]; rw [if_neg (by decide)]; rfl) hloop
    refine Ev.bind s3 ?_
    refine Ev.bind (ev_const hv) ?_
    simp only [if_true]
    refine Ev.congr (fun n => ?_) (Ev.step (g := fun n => dialtonelaw24_RouteEnds.j0 n true kn l d p e 0 false) (fun n => ?_) hj1)
    · rw [if_pos d0, if_pos (by omega)]
      have : (((0 : Int) == 0) != decide (rd kn d ≥ 0)) = false := by simp; exact hk
      rw [this]
    · simp only [dialtonelaw24_RouteEnds.j0]
      have hf : rd_T40 p 0 = ⟨d, rd kn d⟩ := by
        have := P.first
        unfold rdH at this
        rw [show ((0 : Nat) : Int) = 0 from rfl] at this
        rw [this]
        have hm := mx_le (rd kn d) (-1)
        congr 1
        rcases hm.2.2 with e | e <;> omega
      rw [if_neg (by decide), if_pos trivial, if_neg (by omega), if_neg (by rw [w64 (by unfold I64; omega)]; omega), if_pos (by omega), hf, if_pos rfl, if_pos d0, if_pos (by omega), if_pos rfl]
      have he : e = 1 ∨ e = 2 ∨ e = 3 := by rcases P.last with h | h | h <;> simp [h.1]
      rw [if_neg (by omega)]
      have : decide (e > 3) = false := decide_eq_false (by omega)
      rw [this]
  · refine Ev.bind (path_down H d0 d8 hk) ?_
    refine Ev.bind (ev_const hv) ?_
    simp only [if_true]
    refine Ev.congr (fun n => ?_) (Ev.step (g := fun n => dialtonelaw24_RouteEnds.j0 n true kn l d [] 0 240 false) (f := fun _ => some true) (fun n => ?_) (Ev.now _))
    · rw [if_pos d0, if_pos (by omega)]
      have : (((240 : Int) == 0) != decide (rd kn d ≥ 0)) = false := by simp; omega
      rw [this]
    · simp [dialtonelaw24_RouteEnds.j0]
end Go.Proofs.Ytmiahmpobpokmaa.Pure
