/- A learned path: afterwards the call takes at most two hops, and comes to the same version with the same end. -/
import Derived.Test.YtmiahmpobpokmaaPx0
import Derived.Test.YtmiahmpobpokmaaPx27
import Derived.Test.YtmiahmpobpokmaaPx4
import Derived.Test.YtmiahmpobpokmaaPx6
import Derived.Test.YtmiahmpobpokmaaPx7
import Derived.Test.YtmiahmpobpokmaaPx8
import Derived.Test.YtmiahmpobpokmaaM24
import Derived.Test.YtmiahmpobpokmaaS24
namespace Go.Proofs.Ytmiahmpobpokmaa.Pure
open Go.RowKit Go.Proofs.Ytmiahmpobpokmaa.P Go.Proofs.Ytmiahmpobpokmaa.T24 Go.Proofs.YtmiahmpobpokmaaW.PrintWords Go.Proofs.YtmiahmpobpokmaaW.PrintLast Go.Proofs.YtmiahmpobpokmaaW.PrintMore
set_option linter.unusedVariables false

theorem rd_set' (l : List Int) (i : Nat) (v j : Int) (hi : i < l.length) : rd (l.set i v) j = if j.toNat = i then v else rd l j := by
  unfold rd
  by_cases h : j.toNat = i
  · rw [if_pos h, h]; simp [hi]
  · rw [if_neg h]; simp [List.getD_eq_getElem?_getD, List.getElem?_set_ne (Ne.symm h)]
/-- What is known after the first i hops of a path are told of its last version. -/
structure Learned (k m : List Int) (p : List HP) (i : Nat) : Prop where
  len : m.length = 8
  on : ∀ j : Nat, j < i → rd m (rdH p j).f0 = (rdH p (p.length - 1)).f1
  off : ∀ v : Int, 0 ≤ v → v < 8 → (∀ j : Nat, j < i → (rdH p j).f0 ≠ v) → rd m v = rd k v
theorem learn_loop {h k : List Int} {lag c e : Int} {p : List HP} (H : VK h k lag) (c0 : 0 ≤ c) (c8 : c < 8) (hk : 0 ≤ rd k c) (P : Path h k c (-1) p e) :
    ∀ (d i : Nat) (x : List Int), i + d = p.length → Learned k x p i → ∃ m, Ev (fun n => route_Learn.l0 n p x p p.length i) (m, 0) ∧ Learned k m p p.length := by
  have hs := P.short H c0 c8 hk
  have hl1 := H.lag1
  have hne := P.ne
  intro d
  induction d with
  | zero =>
    intro i x hi L
    obtain rfl : i = p.length := by omega
    refine ⟨x, Ev.step (f := fun _ => some (x, 0)) (fun n => ?_) (Ev.now _), L⟩
    simp only [route_Learn.l0]
    rw [if_neg (by omega)]
  | succ d ih =>
    intro i x hi L
    obtain ⟨a0, a1, a2, a3, a4, a5, a6⟩ := P.all H c0 c8 hk i (by omega)
    have hm := P.mono i (p.length - 1 - i) (by omega)
    rw [show i + (p.length - 1 - i) = p.length - 1 by omega] at hm
    have hxl := L.len
    have hmx : mx (rd x (rdH p i).f0) (rdH p (p.length - 1)).f1 = (rdH p (p.length - 1)).f1 := by
      have hle : rd x (rdH p i).f0 ≤ (rdH p (p.length - 1)).f1 := by
        by_cases hex : ∃ j, j < i ∧ (rdH p j).f0 = (rdH p i).f0
        · obtain ⟨j, ji, je⟩ := hex
          have := L.on j ji
          rw [je] at this
          omega
        · rw [L.off _ a0 a1 (fun j ji je => hex ⟨j, ji, je⟩)]; omega
      have := mx_le (rd x (rdH p i).f0) (rdH p (p.length - 1)).f1
      omega
    obtain ⟨m, hm1, hm2⟩ := ih (i + 1) (x.set (rdH p i).f0.toNat (rdH p (p.length - 1)).f1) (by omega) ⟨by simp [hxl], fun j hj => by
      have hc := P.all H c0 c8 hk j (by omega)
      rw [rd_set' _ _ _ _ (by omega)]
      by_cases he : (rdH p j).f0.toNat = (rdH p i).f0.toNat
      · rw [if_pos he]
      · rw [if_neg he]
        refine L.on j ?_
        rcases Nat.lt_or_ge j i with h | h
        · exact h
        · have : j = i := by omega
          subst this; exact absurd rfl he, fun v v0 v8 hv => by
      rw [rd_set' _ _ _ _ (by omega), if_neg (fun he => hv i (by omega) (by omega))]
      exact L.off v v0 v8 (fun j hj => hv j (by omega))⟩
    refine ⟨m, Ev.step (fun n => ?_) hm1, hm2⟩
    have e2 : wrap64 ((p.length : Int) - 1) = ((p.length - 1 : Nat) : Int) := by rw [w64 (by unfold I64; omega)]; omega
    simp only [route_Learn.l0]
    rw [e2]
    change (if (i : Int) < p.length then (if 0 ≤ (i : Int) then (if (i : Int) < p.length then (if 0 ≤ (rdH p i).f0 then (if (rdH p i).f0 < x.length then (if 0 ≤ ((p.length - 1 : Nat) : Int) then (if ((p.length - 1 : Nat) : Int) < p.length then
      (route_Learn.l0 n p (x.set (rdH p i).f0.toNat (mx (rd x (rdH p i).f0) (rdH p (p.length - 1)).f1)) p p.length (wrap64 ((i : Int) + 1))) else none) else none) else none) else none) else none) else none) else some (x, 0)) = _
    rw [if_pos (by omega), if_pos (by omega), if_pos (by omega), if_pos a0, if_pos (by omega), if_pos (by omega), if_pos (by omega), hmx, w64 (by unfold I64; omega)]
    rfl
theorem learn_ev {h k : List Int} {lag c e : Int} {p : List HP} (H : VK h k lag) (c0 : 0 ≤ c) (c8 : c < 8) (hk : 0 ≤ rd k c) (P : Path h k c (-1) p e)
    (hp : Ev (fun n => route_Path.f n h k lag c) (p, e, 0)) : ∃ m, Ev (fun n => route_Learn.f n h k lag c) (m, 0) ∧ Learned k m p p.length := by
  obtain ⟨m, h1, h2⟩ := learn_loop H c0 c8 hk P p.length 0 k (by omega) ⟨H.klen, fun j hj => by omega, fun v _ _ _ => rfl⟩
  refine ⟨m, ?_, h2⟩
  unfold route_Learn.f
  refine Ev.bind hp ?_
  refine Ev.congr (fun n => ?_) h1
  rw [if_pos rfl, show slices_Clone_int_int.f k = some k by unfold slices_Clone_int_int.f; rw [if_pos (by have := H.klen; omega)]]
  rfl
theorem Learned.valid {h k m : List Int} {lag c e : Int} {p : List HP} (L : Learned k m p p.length) (H : VK h k lag) (c0 : 0 ≤ c) (c8 : c < 8) (hk : 0 ≤ rd k c) (P : Path h k c (-1) p e) :
    VK h m lag ∧ ∀ v : Int, 0 ≤ v → v < 8 → rd k v ≤ rd m v ∧ (rd k v = -1 → rd m v = -1) ∧ (0 ≤ rd k v → 0 ≤ rd m v) := by
  have hne := P.ne
  obtain ⟨z0, z1, z2, z3, z4, z5, z6⟩ := P.all H c0 c8 hk (p.length - 1) (by omega)
  have key : ∀ v : Int, 0 ≤ v → v < 8 → rd m v = rd k v ∨ (rd m v = (rdH p (p.length - 1)).f1 ∧ 0 ≤ rd k v ∧ rd k v ≤ (rdH p (p.length - 1)).f1) := by
    intro v v0 v8
    by_cases hex : ∃ j, j < p.length ∧ (rdH p j).f0 = v
    · obtain ⟨j, jl, rfl⟩ := hex
      have ha := P.all H c0 c8 hk j jl
      have hm := P.mono j (p.length - 1 - j) (by omega)
      rw [show j + (p.length - 1 - j) = p.length - 1 by omega] at hm
      exact .inr ⟨L.on j jl, by omega, by omega⟩
    · exact .inl (L.off v v0 v8 (fun j jl je => hex ⟨j, jl, je⟩))
  refine ⟨⟨H.len1, H.len2, H.hold, L.len, H.lag0, H.lag1, fun v v0 v8 => ?_⟩, fun v v0 v8 => ?_⟩
  · rcases key v v0 v8 with h1 | ⟨h1, h2, h3⟩
    · rw [h1]; exact H.known v v0 v8
    · rcases H.known v v0 v8 with h4 | ⟨h4, h5, h6, h7⟩
      · omega
      · rw [h1]; exact .inr ⟨z4, z6, z5, fun u u1 u2 hne hor => by have := h7 u u1 u2 hne hor; omega⟩
  · rcases key v v0 v8 with h1 | ⟨h1, h2, h3⟩ <;> omega
/-- The path after learning. -/
theorem Learned.path {h k m : List Int} {lag c e e' : Int} {p q : List HP} (L : Learned k m p p.length) (H : VK h k lag) (c0 : 0 ≤ c) (c8 : c < 8) (hk : 0 ≤ rd k c) (P : Path h k c (-1) p e)
    (Q : Path h m c (-1) q e') : (q.length = 1 ∨ q.length = 2) ∧ e' = e ∧ (rdH q (q.length - 1)).f1 = (rdH p (p.length - 1)).f1 ∧ (e = 1 → (rdH q (q.length - 1)).f0 = (rdH p (p.length - 1)).f0) := by
  have hne := P.ne
  have hqn := Q.ne
  obtain ⟨V, hv⟩ := L.valid H c0 c8 hk P
  obtain ⟨z0, z1, z2, z3, z4, z5, z6⟩ := P.all H c0 c8 hk (p.length - 1) (by omega)
  have hmc : rd m c = (rdH p (p.length - 1)).f1 := by
    have := L.on 0 hne
    rwa [P.first] at this
  have hq0 : rdH q 0 = ⟨c, (rdH p (p.length - 1)).f1⟩ := by
    rw [Q.first, hmc]
    have hm := mx_le (rdH p (p.length - 1)).f1 (-1)
    congr 1
    rcases hm.2.2 with e | e <;> omega
  have hmz : rd m (rdH p (p.length - 1)).f0 = (rdH p (p.length - 1)).f1 := L.on _ (by omega)
  have hh := H.hold _ z4 z5
  have hlast := Q.last
  have hnext := Q.next
  have hPl := P.last
  generalize hz : rdH p (p.length - 1) = z at *
  obtain ⟨zc, W⟩ := z
  simp only at *
  have hvw := fun h0 => hv (rd h W) h0 (by omega)
  by_cases h1 : q.length = 1
  · rw [h1, hq0] at hlast
    rw [h1, hq0]
    unfold EndAt at hlast hPl
    simp only at hlast hPl ⊢
    refine ⟨by simp, ?_⟩
    rcases hPl with ⟨rfl, h4⟩ | ⟨rfl, h4, h5⟩ | ⟨rfl, h4, h5, h6⟩
    · rcases hlast with ⟨rfl, h7⟩ | ⟨rfl, h7, h8⟩ | ⟨rfl, h7, h8, h9⟩
      · exact ⟨by simp, by simp, fun _ => by omega⟩
      · omega
      · rw [h4] at h9; omega
    · rcases hlast with ⟨rfl, h7⟩ | ⟨rfl, h7, h8⟩ | ⟨rfl, h7, h8, h9⟩
      · omega
      · exact ⟨by simp, by simp, fun h => by omega⟩
      · omega
    · have := hvw h4
      rcases hlast with ⟨rfl, h7⟩ | ⟨rfl, h7, h8⟩ | ⟨rfl, h7, h8, h9⟩
      · rw [h7] at h6; omega
      · omega
      · exact ⟨by simp, by simp, fun h => by omega⟩
  · obtain ⟨n1, n2, n3, n4⟩ := hnext 0 (by omega)
    rw [hq0] at n1 n2 n3 n4
    simp only at n1 n2 n3 n4
    unfold EndAt at hPl
    simp only at hPl
    have := hvw n2
    have he : e = 1 ∧ rd h W = zc := by
      rcases hPl with ⟨rfl, h4⟩ | ⟨rfl, h4, h5⟩ | ⟨rfl, h4, h5, h6⟩
      · exact ⟨rfl, h4⟩
      · omega
      · omega
    obtain ⟨rfl, he⟩ := he
    rw [he, hmz] at n4
    have hmm := mx_le W W
    have hq1 : rdH q 1 = ⟨zc, W⟩ := by
      rw [show (1 : Nat) = 0 + 1 from rfl, n4]
      congr 1
      omega
    have hl2 : q.length = 2 := by
      rcases Nat.lt_or_ge 2 q.length with h | h
      · exfalso
        obtain ⟨m1, _⟩ := hnext 1 (by omega)
        rw [hq1] at m1
        exact m1 he
      · omega
    rw [hl2, show 2 - 1 = 1 from rfl, hq1] at hlast
    rw [hl2, show 2 - 1 = 1 from rfl, hq1]
    refine ⟨.inr rfl, ?_, rfl, fun _ => rfl⟩
    unfold EndAt at hlast
    simp only at hlast
    rcases hlast with ⟨rfl, h7⟩ | ⟨rfl, h7, h8⟩ | ⟨rfl, h7, h8, h9⟩
    · rfl
    · exact absurd he h8
    · exact absurd he h8
theorem learns_end {h k m : List Int} {lag c e : Int} {p : List HP} (L : Learned k m p p.length) (H : VK h k lag) (c0 : 0 ≤ c) (c8 : c < 8) (hk : 0 ≤ rd k c) (P : Path h k c (-1) p e) :
    Ev (fun n => dialtonelaw24_RouteLearns.l0 n h k lag c p e m 8) true := by
  obtain ⟨V, hv⟩ := L.valid H c0 c8 hk P
  have hval : route_Valid.f h m lag = some true := by unfold route_Valid.f; rw [(valid_iff h m lag).mpr V]
  have hkl := H.klen
  have hne := P.ne
  have hs := P.short H c0 c8 hk
  have hl1 := H.lag1
  obtain ⟨q, e', s4, Q⟩ := path_ev V c0 c8 ((hv c c0 c8).2.2 hk)
  obtain ⟨hl, he, hf1, hf0⟩ := L.path H c0 c8 hk P Q
  have s5 := Ev.bind (f := fun n (bt432 : List HP × Int × Int) => ((route_Valid.f h m lag).bind fun t437 => (if t437 = true then (if bt432.2.2 = 0 then (if (bt432.1.length : Int) < 1 then (none) else (if (bt432.1.length : Int) > 2 then (none) else (if bt432.2.1 = e then (if 0 ≤ (wrap64 ((p.length : Int) - 1)) then (if (wrap64 ((p.length : Int) - 1)) < (p.length : Int) then (if 0 ≤ (wrap64 ((bt432.1.length : Int) - 1)) then (if (wrap64 ((bt432.1.length : Int) - 1)) < (bt432.1.length : Int) then (if ((rd_T40 p (wrap64 ((p.length : Int) - 1))).f1) = ((rd_T40 bt432.1 (wrap64 ((bt432.1.length : Int) - 1))).f1) then (if e = 1 then (some (((rd_T40 p (wrap64 ((p.length : Int) - 1))).f0) == ((rd_T40 bt432.1 (wrap64 ((bt432.1.length : Int) - 1))).f0) && (((rd_T40 p (wrap64 ((p.length : Int) - 1))).f1) == ((rd_T40 bt432.1 (wrap64 ((bt432.1.length : Int) - 1))).f1)))) else (some true)) else (none)) else (none)) else (none)) else (none)) else (none)) else (none)))) else (none)) else (none)))) s4 (r := true) (Ev.congr (f := fun _ => some true) (fun n => by
    have e2 : wrap64 ((p.length : Int) - 1) = ((p.length - 1 : Nat) : Int) := by rw [w64 (by unfold I64; omega)]; omega
    have e3 : wrap64 ((q.length : Int) - 1) = ((q.length - 1 : Nat) : Int) := by rw [w64 (by unfold I64; omega)]; omega
    rw [hval]
    simp only [Option.bind_some, if_true]
    rw [e2, e3]
    rw [if_neg (by omega), if_neg (by omega), if_pos he, if_pos (by omega), if_pos (by omega), if_pos (by omega), if_pos (by omega)]
    change (if (rdH p (p.length - 1)).f1 = (rdH q (q.length - 1)).f1 then (if e = 1 then some ((rdH p (p.length - 1)).f0 == (rdH q (q.length - 1)).f0 && (rdH p (p.length - 1)).f1 == (rdH q (q.length - 1)).f1) else some true) else none) = some true
    rw [if_pos hf1.symm]
    by_cases h1 : e = 1
    · rw [if_pos h1, hf0 h1, hf1]; simp
    · rw [if_neg h1]) (Ev.now _))
  refine Ev.step (fun n => ?_) s5
  simp only [dialtonelaw24_RouteLearns.l0]
  rw [if_neg (by omega)]
theorem learns_cmp {h k m : List Int} {lag c e : Int} {p : List HP} (L : Learned k m p p.length) (H : VK h k lag) (c0 : 0 ≤ c) (c8 : c < 8) (hk : 0 ≤ rd k c) (P : Path h k c (-1) p e) :
    ∀ (d i : Nat), i + d = 8 → Ev (fun n => dialtonelaw24_RouteLearns.l0 n h k lag c p e m i) true := by
  obtain ⟨V, hv⟩ := L.valid H c0 c8 hk P
  have hkl := H.klen
  have hml := L.len
  intro d
  induction d with
  | zero =>
    intro i hi
    obtain rfl : i = 8 := by omega
    exact learns_end L H c0 c8 hk P
  | succ d ih =>
    intro i hi
    obtain ⟨h1, h2, h3⟩ := hv i (by omega) (by omega)
    refine Ev.step (fun n => ?_) (ih (i + 1) (by omega))
    simp only [dialtonelaw24_RouteLearns.l0]
    rw [if_pos (by omega), if_pos (by omega), if_pos (by omega), if_neg (by omega), w64 (by unfold I64; omega)]
    by_cases h4 : rd k i = -1
    · rw [if_pos h4, if_pos (h2 h4)]; rfl
    · rw [if_neg h4]; rfl
theorem RouteLearns : dialtonelaw24_RouteLearns.Pure := by
  intro x y lag c hx1 hx2 hx hy1 hy2 hy hlag hc
  apply Ev.rounds
  obtain ⟨h, kn, l, s2, H, hle, hpl⟩ := made_tells x y lag (fun v hv => i64_of (hx v hv)) (fun v hv => i64_of (hy v hv)) (i64_of hlag)
  obtain ⟨d, hd, d0, d8⟩ := pick_tells c 8 (i64_of hc) (by omega)
  have hkl := H.klen
  unfold dialtonelaw24_RouteLearns.f
  refine Ev.bind sane_ev ?_
  simp only [if_true]
  refine Ev.bind s2 ?_
  refine Ev.bind (ev_const ((lawpick_eq c 8).trans hd)) ?_
  by_cases hk : 0 ≤ rd kn d
  · obtain ⟨p, e, s3, P⟩ := path_ev H d0 d8 hk
    obtain ⟨m, s4, L⟩ := learn_ev H d0 d8 hk P s3
    refine Ev.bind s3 ?_
    refine Ev.bind s4 ?_
    have hne := P.ne
    have hml := L.len
    refine Ev.congr (fun n => ?_) (learns_cmp L H d0 d8 hk P 8 0 rfl)
    dsimp only
    rw [if_pos rfl, if_pos rfl, if_neg (by omega), if_pos (by omega)]
    rfl
  · have s4 : Ev (fun n => route_Learn.f n h kn l d) ([], 240) := by
      unfold route_Learn.f
      exact Ev.bind (path_down H d0 d8 hk) (Ev.now _)
    refine Ev.bind (path_down H d0 d8 hk) ?_
    refine Ev.bind s4 ?_
    exact Ev.now _
end Go.Proofs.Ytmiahmpobpokmaa.Pure
