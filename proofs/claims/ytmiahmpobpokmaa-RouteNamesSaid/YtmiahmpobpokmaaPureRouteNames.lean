/- Names do not matter: when all carriers are renamed by a rotation the paths are renamed likewise. -/
import Derived.Test.YtmiahmpobpokmaaPx0
import Derived.Test.YtmiahmpobpokmaaPx15
import Derived.Test.YtmiahmpobpokmaaPx30
import Derived.Test.YtmiahmpobpokmaaPx4
import Derived.Test.YtmiahmpobpokmaaPx6
import Derived.Test.YtmiahmpobpokmaaM24
import Derived.Test.YtmiahmpobpokmaaS24
namespace Go.Proofs.Ytmiahmpobpokmaa.Pure
open Go.RowKit Go.Proofs.Ytmiahmpobpokmaa.P Go.Proofs.Ytmiahmpobpokmaa.T24 Go.Proofs.YtmiahmpobpokmaaW.PrintWords Go.Proofs.YtmiahmpobpokmaaW.PrintLast Go.Proofs.YtmiahmpobpokmaaW.PrintMore
set_option linter.unusedVariables false

/-- A carrier's new name. -/
def turned (t v : Int) : Int := (v + t) % 8
structure Turned (h k g m : List Int) (t : Int) : Prop where
  t0 : 0 ≤ t
  t8 : t < 8
  len : g.length = h.length
  held : ∀ u : Int, 0 ≤ u → u < h.length → rd g u = if rd h u < 0 then -1 else turned t (rd h u)
  klen : m.length = 8
  known : ∀ c : Int, 0 ≤ c → c < 8 → rd m (turned t c) = rd k c
theorem turned_lt {t c : Int} : 0 ≤ turned t c ∧ turned t c < 8 := by unfold turned; omega
theorem turned_inj {t a b : Int} (a0 : 0 ≤ a) (a8 : a < 8) (b0 : 0 ≤ b) (b8 : b < 8) (h : turned t a = turned t b) : a = b := by unfold turned at h; omega
theorem Turned.valid {h k g m : List Int} {t lag : Int} (T : Turned h k g m t) (H : VK h k lag) : VK g m lag := by
  have hl := T.len
  refine ⟨by have := H.len1; omega, by have := H.len2; omega, fun i i0 i1 => ?_, T.klen, H.lag0, H.lag1, fun c c0 c8 => ?_⟩
  · rw [T.held i i0 (by omega)]
    have := @turned_lt t (rd h i)
    split <;> omega
  · have t0 := T.t0
    have t8 := T.t8
    obtain ⟨i, i0, i8, rfl⟩ : ∃ i, 0 ≤ i ∧ i < 8 ∧ c = turned t i := ⟨(c + (8 - t)) % 8, by omega, by omega, by unfold turned; omega⟩
    rw [T.known i i0 i8]
    rcases H.known i i0 i8 with h1 | ⟨h1, h2, h3, h4⟩
    · exact .inl h1
    · refine .inr ⟨h1, by omega, by omega, fun u u1 u2 hne hor => ?_⟩
      have ha := H.hold u (by omega) (by omega)
      have hb := H.hold (u - 1) (by omega) (by omega)
      rw [T.held u (by omega) (by omega), T.held (u - 1) (by omega) (by omega)] at hne hor
      have back : ∀ v : Int, -1 ≤ v → v ≤ 7 → (if v < 0 then (-1 : Int) else turned t v) = turned t i → v = i := by
        intro v v0 v7 hv
        have := @turned_lt t i
        split at hv
        · omega
        · exact turned_inj (by omega) (by omega) i0 i8 hv
      refine h4 u u1 (by omega) (fun he => hne (by rw [he])) ?_
      rcases hor with ho | ho
      · exact .inl (back _ ha.1 ha.2 ho)
      · exact .inr (back _ hb.1 hb.2 ho)
/-- The two ends agree. -/
theorem Turned.ends {h k g m : List Int} {t lag e e' w c : Int} (T : Turned h k g m t) (H : VK h k lag) (c0 : 0 ≤ c) (c8 : c < 8) (w0 : 0 ≤ w) (w1 : w < h.length)
    (E : EndAt h k ⟨c, w⟩ e) (E' : EndAt g m ⟨turned t c, w⟩ e') : e = e' := by
  unfold EndAt at E E'
  simp only at E E'
  have hh := H.hold w w0 w1
  rw [T.held w w0 w1] at E'
  have hc := @turned_lt t c
  have hw := @turned_lt t (rd h w)
  by_cases hn : rd h w < 0
  · rw [if_pos hn] at E'
    rcases E with ⟨rfl, h1⟩ | ⟨rfl, h1, h2⟩ | ⟨rfl, h1, h2, h3⟩ <;> rcases E' with ⟨rfl, h4⟩ | ⟨rfl, h4, h5⟩ | ⟨rfl, h4, h5, h6⟩ <;> first | rfl | omega
  · rw [if_neg hn, T.known _ (by omega) (by omega)] at E'
    rcases E with ⟨rfl, h1⟩ | ⟨rfl, h1, h2⟩ | ⟨rfl, h1, h2, h3⟩ <;> rcases E' with ⟨rfl, h4⟩ | ⟨rfl, h4, h5⟩ | ⟨rfl, h4, h5, h6⟩
    · rfl
    · omega
    · exact absurd (by rw [h1]) h5
    · omega
    · omega
    · omega
    · exact absurd (turned_inj (by omega) (by omega) c0 c8 h4) h2
    · omega
    · rfl
theorem Turned.next {h k g m : List Int} {t lag e w c : Int} (T : Turned h k g m t) (H : VK h k lag) (c0 : 0 ≤ c) (c8 : c < 8) (w0 : 0 ≤ w) (w1 : w < h.length)
    (n1 : rd h w ≠ c) (n2 : 0 ≤ rd h w) (n3 : 0 ≤ rd k (rd h w)) (E : EndAt g m ⟨turned t c, w⟩ e) : False := by
  unfold EndAt at E
  simp only at E
  have hh := H.hold w w0 w1
  rw [T.held w w0 w1, if_neg (by omega), T.known _ (by omega) (by omega)] at E
  have hw := @turned_lt t (rd h w)
  rcases E with ⟨_, h4⟩ | ⟨_, h4, h5⟩ | ⟨_, h4, h5, h6⟩
  · exact n1 (turned_inj (by omega) (by omega) c0 c8 h4)
  · omega
  · omega
theorem Turned.back {h k g m : List Int} {t lag e w c : Int} (T : Turned h k g m t) (H : VK h k lag) (c0 : 0 ≤ c) (c8 : c < 8) (w0 : 0 ≤ w) (w1 : w < h.length)
    (n1 : rd g w ≠ turned t c) (n2 : 0 ≤ rd g w) (n3 : 0 ≤ rd m (rd g w)) (E : EndAt h k ⟨c, w⟩ e) : False := by
  unfold EndAt at E
  simp only at E
  have hh := H.hold w w0 w1
  rw [T.held w w0 w1] at n1 n2 n3
  by_cases hn : rd h w < 0
  · rw [if_pos hn] at n2; omega
  · rw [if_neg hn] at n1 n2 n3
    rw [T.known _ (by omega) (by omega)] at n3
    rcases E with ⟨_, h4⟩ | ⟨_, h4, h5⟩ | ⟨_, h4, h5, h6⟩
    · exact n1 (by rw [h4])
    · omega
    · omega
theorem Turned.pair {h k g m : List Int} {t lag c e e' : Int} {p q : List HP} (T : Turned h k g m t) (H : VK h k lag) (c0 : 0 ≤ c) (c8 : c < 8) (hk : 0 ≤ rd k c)
    (P : Path h k c (-1) p e) (Q : Path g m (turned t c) (-1) q e') : ∀ i : Nat, i < p.length → i < q.length ∧ rdH q i = ⟨turned t (rdH p i).f0, (rdH p i).f1⟩ := by
  intro i
  induction i with
  | zero =>
    intro _
    refine ⟨Q.ne, ?_⟩
    rw [P.first, Q.first, T.known c c0 c8]
  | succ i ih =>
    intro hi
    obtain ⟨j0, j1⟩ := ih (by omega)
    obtain ⟨n1, n2, n3, n4⟩ := P.next i hi
    obtain ⟨a0, a1, a2, a3, a4, a5, a6⟩ := P.all H c0 c8 hk i (by omega)
    have hh := H.hold _ a4 a5
    have hlt : i + 1 < q.length := by
      rcases Nat.lt_or_ge (i + 1) q.length with h | h
      · exact h
      · exfalso
        have hl := Q.last
        rw [show q.length - 1 = i by omega, j1] at hl
        exact T.next H a0 a1 a4 a5 n1 n2 n3 hl
    refine ⟨hlt, ?_⟩
    obtain ⟨m1, m2, m3, m4⟩ := Q.next i hlt
    rw [m4, n4, j1]
    simp only
    rw [T.held _ a4 a5, if_neg (by omega), T.known _ n2 (by omega)]
theorem Turned.same {h k g m : List Int} {t lag c e e' : Int} {p q : List HP} (T : Turned h k g m t) (H : VK h k lag) (c0 : 0 ≤ c) (c8 : c < 8) (hk : 0 ≤ rd k c)
    (P : Path h k c (-1) p e) (Q : Path g m (turned t c) (-1) q e') : p.length = q.length ∧ e = e' := by
  have hp := P.ne
  obtain ⟨z0, z1⟩ := T.pair H c0 c8 hk P Q (p.length - 1) (by omega)
  obtain ⟨a0, a1, a2, a3, a4, a5, a6⟩ := P.all H c0 c8 hk (p.length - 1) (by omega)
  have hlen : p.length = q.length := by
    rcases Nat.lt_or_ge p.length q.length with hlt | hge
    · exfalso
      obtain ⟨m1, m2, m3, m4⟩ := Q.next (p.length - 1) (by omega)
      rw [z1] at m1 m2 m3
      exact T.back H a0 a1 a4 a5 m1 m2 m3 P.last
    · omega
  refine ⟨hlen, ?_⟩
  have hq := Q.last
  rw [← hlen, z1] at hq
  exact T.ends H a0 a1 a4 a5 P.last hq
theorem tmod_turned {a t : Int} (a0 : 0 ≤ a) (a8 : a < 8) (t0 : 0 ≤ t) (t8 : t < 8) : Int.tmod (wrap64 (a + t)) 8 = turned t a := by
  rw [w64 (by unfold I64; omega), Int.tmod_eq_emod_of_nonneg (by omega)]; rfl
theorem rd_set (l : List Int) (i : Nat) (v j : Int) (hi : i < l.length) : rd (l.set i v) j = if j.toNat = i then v else rd l j := by
  unfold rd
  by_cases h : j.toNat = i
  · rw [if_pos h, h]; simp [hi]
  · rw [if_neg h]; simp [List.getD_eq_getElem?_getD, List.getElem?_set_ne (Ne.symm h)]
theorem names_cmp {h k g m : List Int} {t lag c e e' : Int} {p q : List HP} (T : Turned h k g m t) (H : VK h k lag) (c0 : 0 ≤ c) (c8 : c < 8) (hk : 0 ≤ rd k c)
    (P : Path h k c (-1) p e) (Q : Path g m (turned t c) (-1) q e') : ∀ (d i : Nat), i + d = p.length → Ev (fun n => dialtonelaw24_RouteNames.l2 n true t p q i) true := by
  have hs := P.short H c0 c8 hk
  have hl1 := H.lag1
  have t0 := T.t0
  have t8 := T.t8
  intro d
  induction d with
  | zero =>
    intro i hi
    refine Ev.step (f := fun _ => some true) (fun n => ?_) (Ev.now _)
    simp only [dialtonelaw24_RouteNames.l2]
    rw [if_neg (by omega)]
  | succ d ih =>
    intro i hi
    obtain ⟨z0, z1⟩ := T.pair H c0 c8 hk P Q i (by omega)
    obtain ⟨a0, a1, a2, a3, a4, a5, a6⟩ := P.all H c0 c8 hk i (by omega)
    refine Ev.step (fun n => ?_) (ih (i + 1) (by omega))
    simp only [dialtonelaw24_RouteNames.l2]
    change (if (i : Int) < p.length then (if 0 ≤ (i : Int) then (if (i : Int) < q.length then (if (rdH q i).f1 = (rdH p i).f1 then (if (rdH q i).f0 = Int.tmod (wrap64 ((rdH p i).f0 + t)) 8 then _ else _) else _) else _) else _) else _) = _
    rw [tmod_turned a0 a1 t0 t8, z1, if_pos (by omega), if_pos (by omega), if_pos (by omega), if_pos rfl, if_pos rfl, w64 (by unfold I64; omega)]
    rfl
/-- From the two given, all the rest. -/
theorem names_end {h k g m : List Int} {t lag z c : Int} (T : Turned h k g m t) (H : VK h k lag) (hp : dialtonelaw24_pick.f z 8 = some c) (c0 : 0 ≤ c) (c8 : c < 8) :
    Ev (fun n => dialtonelaw24_RouteNames.l1 n z true h k lag t g m 8) true := by
  have V := T.valid H
  have t0 := T.t0
  have t8 := T.t8
  have hv : route_Valid.f g m lag = some true := by unfold route_Valid.f; rw [(valid_iff g m lag).mpr V]
  have hs := @turned_lt t c
  have hks := T.known c c0 c8
  have start : ∀ v, Ev (fun k' => (route_Path.f k' h k lag c).bind fun bt559 => ((route_Path.f k' g m lag (turned t c)).bind fun bt564 => (if bt559.2.2 = bt564.2.2 then (if bt559.2.1 = bt564.2.1 then (if (bt559.1.length : Int) = (bt564.1.length : Int) then ((route_Valid.f g m lag).bind fun t569 => (dialtonelaw24_RouteNames.j2 k' true t bt559.1 bt564.1 (!t569))) else (dialtonelaw24_RouteNames.j2 k' true t bt559.1 bt564.1 true)) else (dialtonelaw24_RouteNames.j2 k' true t bt559.1 bt564.1 true)) else (dialtonelaw24_RouteNames.j2 k' true t bt559.1 bt564.1 true)))) v →
      Ev (fun n => dialtonelaw24_RouteNames.l1 n z true h k lag t g m 8) v := by
    intro v hv
    refine Ev.step (fun n => ?_) hv
    simp only [dialtonelaw24_RouteNames.l1]
    rw [if_neg (by decide), hp]
    simp only [Option.bind_some]
    rw [tmod_turned c0 c8 t0 t8]
  apply start
  by_cases hk : 0 ≤ rd k c
  · obtain ⟨p, e, s3, P⟩ := path_ev H c0 c8 hk
    obtain ⟨q, e', s4, Q⟩ := path_ev V hs.1 hs.2 (by rw [hks]; exact hk)
    refine Ev.bind s3 ?_
    refine Ev.bind s4 ?_
    obtain ⟨hl, he⟩ := T.same H c0 c8 hk P Q
    refine Ev.congr (fun n => ?_) (Ev.step (g := fun n => dialtonelaw24_RouteNames.j2 n true t p q false) (fun n => ?_) (names_cmp T H c0 c8 hk P Q p.length 0 (by omega)))
    · rw [hv]
      simp only [Option.bind_some]
      rw [if_pos trivial, if_pos he, if_pos (by omega)]
      rfl
    · simp only [dialtonelaw24_RouteNames.j2]; rw [if_neg (by decide)]; rfl
  · refine Ev.bind (path_down H c0 c8 hk) ?_
    refine Ev.bind (path_down V hs.1 hs.2 (by rw [hks]; exact hk)) ?_
    refine Ev.congr (fun n => ?_) (Ev.step (g := fun n => dialtonelaw24_RouteNames.j2 n true t [] [] false) (f := fun n => dialtonelaw24_RouteNames.l2 n true t [] [] 0) (fun n => ?_) (Ev.step (f := fun _ => some true) (fun n => ?_) (Ev.now _)))
    · rw [hv]
      simp
    · simp only [dialtonelaw24_RouteNames.j2]; rw [if_neg (by decide)]
    · simp [dialtonelaw24_RouteNames.l2]
theorem names_known {h k : List Int} {t lag z c : Int} (H : VK h k lag) (t0 : 0 ≤ t) (t8 : t < 8) (hp : dialtonelaw24_pick.f z 8 = some c) (c0 : 0 ≤ c) (c8 : c < 8)
    (g : List Int) (hg : g.length = h.length) (hheld : ∀ u : Int, 0 ≤ u → u < h.length → rd g u = if rd h u < 0 then -1 else turned t (rd h u)) :
    ∀ (d i : Nat) (m : List Int), i + d = 8 → m.length = 8 → (∀ c : Int, 0 ≤ c → c < i → rd m (turned t c) = rd k c) → Ev (fun n => dialtonelaw24_RouteNames.l1 n z true h k lag t g m i) true := by
  intro d
  induction d with
  | zero =>
    intro i m hi hm hx
    obtain rfl : i = 8 := by omega
    exact names_end ⟨t0, t8, hg, hheld, hm, fun c c0 c8 => hx c c0 (by omega)⟩ H hp c0 c8
  | succ d ih =>
    intro i m hi hm hx
    have hkl := H.klen
    have ht := @turned_lt t i
    refine Ev.step (fun n => ?_) (ih (i + 1) (m.set (turned t i).toNat (rd k i)) (by omega) (by simp [hm]) (fun c c0 ci => ?_))
    · simp only [dialtonelaw24_RouteNames.l1]
      rw [if_pos (by omega), if_pos (by omega), if_pos (by omega), tmod_turned (by omega) (by omega) t0 t8, if_pos ht.1, if_pos (by omega), w64 (by unfold I64; omega)]
      rfl
    · rw [rd_set _ _ _ _ (by omega)]
      have hc := @turned_lt t c
      by_cases hci : c = i
      · rw [if_pos (by rw [hci]), hci]
      · rw [if_neg (fun he => hci (turned_inj c0 (by omega) (by omega) (by omega) (show turned t c = turned t i by omega)))]
        exact hx c c0 (by omega)
theorem names_held {h k : List Int} {t lag z c : Int} (H : VK h k lag) (t0 : 0 ≤ t) (t8 : t < 8) (hp : dialtonelaw24_pick.f z 8 = some c) (c0 : 0 ≤ c) (c8 : c < 8) :
    ∀ (d : Nat) (g : List Int), g.length + d = h.length → (∀ u : Int, 0 ≤ u → u < g.length → rd g u = if rd h u < 0 then -1 else turned t (rd h u)) → Ev (fun n => dialtonelaw24_RouteNames.l0 n z true h k lag t g g.length) true := by
  have hl2 := H.len2
  intro d
  induction d with
  | zero =>
    intro g hg hx
    have := names_known H t0 t8 hp c0 c8 g (by omega) (fun u u0 u1 => hx u u0 (by omega)) 8 0 (List.replicate 8 0) rfl rfl (fun c c0 c1 => by omega)
    refine Ev.step (fun n => ?_) this
    simp only [dialtonelaw24_RouteNames.l0]
    rw [if_neg (by omega), if_pos (by decide)]
    rfl
  | succ d ih =>
    intro g hg hx
    have hold := H.hold g.length (by omega) (by omega)
    have hw2 : wrap64 ((g.length : Int) + 1) = ((g.length + 1 : Nat) : Int) := by rw [w64 (by unfold I64; omega)]; omega
    have put : ∀ v : Int, v = (if rd h g.length < 0 then -1 else turned t (rd h g.length)) → Ev (fun n => dialtonelaw24_RouteNames.l0 n z true h k lag t (g ++ [v]) ((g.length + 1 : Nat) : Int)) true := by
      intro v hv
      have := ih (g ++ [v]) (by simp; omega) (fun u u0 u1 => by
        have hu : u = ((u.toNat : Nat) : Int) := by omega
        rcases Nat.lt_or_ge u.toNat g.length with hlt | hge
        · rw [hu, rd_append_lt _ _ _ hlt, ← hu]; exact hx u u0 (by omega)
        · have : u.toNat = g.length := by simp at u1; omega
          rw [hu, this, rd_append_eq]; exact hv)
      simpa using this
    by_cases hn : rd h g.length < 0
    · refine Ev.step (fun n => ?_) (put (-1) (by rw [if_pos hn]))
      simp only [dialtonelaw24_RouteNames.l0]
      rw [if_pos (by omega), if_pos (by omega), if_pos hn, if_pos (by omega), hw2]
    · refine Ev.step (fun n => ?_) (put (turned t (rd h g.length)) (by rw [if_neg hn]))
      simp only [dialtonelaw24_RouteNames.l0]
      rw [if_pos (by omega), if_pos (by omega), if_neg hn, if_pos (by omega), hw2, tmod_turned (by omega) (by omega) t0 t8]
theorem RouteNames : dialtonelaw24_RouteNames.Pure := by
  intro x y lag t c hx1 hx2 hx hy1 hy2 hy hlag ht hc
  apply Ev.rounds
  obtain ⟨h, kn, l, s2, H, hle, hpl⟩ := made_tells x y lag (fun v hv => i64_of (hx v hv)) (fun v hv => i64_of (hy v hv)) (i64_of hlag)
  obtain ⟨d, hd, d0, d8⟩ := pick_tells c 8 (i64_of hc) (by omega)
  obtain ⟨s, hs, s0, s8⟩ := pick_tells t 8 (i64_of ht) (by omega)
  unfold dialtonelaw24_RouteNames.f
  refine Ev.bind sane_ev ?_
  simp only [if_true]
  refine Ev.bind s2 ?_
  refine Ev.bind (ev_const ((lawpick_eq t 8).trans hs)) ?_
  exact names_held H s0 s8 ((lawpick_eq c 8).trans hd) d0 d8 h.length [] (by simp) (fun u u0 u1 => by simp at u1; omega)
end Go.Proofs.Ytmiahmpobpokmaa.Pure
