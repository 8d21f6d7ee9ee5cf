/- A move told to the old and the new holder alone: the path is the old one until it comes to one of the two. -/
import Derived.Test.YtmiahmpobpokmaaPx0
import Derived.Test.YtmiahmpobpokmaaPx13
import Derived.Test.YtmiahmpobpokmaaPx15
import Derived.Test.YtmiahmpobpokmaaPx29
import Derived.Test.YtmiahmpobpokmaaPx4
import Derived.Test.YtmiahmpobpokmaaPx6
import Derived.Test.YtmiahmpobpokmaaM24
import Derived.Test.YtmiahmpobpokmaaS24
namespace Go.Proofs.Ytmiahmpobpokmaa.Pure
open Go.RowKit Go.Proofs.Ytmiahmpobpokmaa.P Go.Proofs.Ytmiahmpobpokmaa.T24 Go.Proofs.YtmiahmpobpokmaaW.PrintWords Go.Proofs.YtmiahmpobpokmaaW.PrintLast Go.Proofs.YtmiahmpobpokmaaW.PrintMore
set_option linter.unusedVariables false

theorem rd_set'' (l : List Int) (i : Nat) (v j : Int) (hi : i < l.length) : rd (l.set i v) j = if j.toNat = i then v else rd l j := by
  unfold rd
  by_cases h : j.toNat = i
  · rw [if_pos h, h]; simp [hi]
  · rw [if_neg h]; simp [List.getD_eq_getElem?_getD, List.getElem?_set_ne (Ne.symm h)]
/-- Holders and known versions after a move that the two parties know, if up. -/
structure Moved (h k m : List Int) (a b : Int) : Prop where
  eqa : a = rd h ((h.length : Int) - 1)
  b0 : -1 ≤ b
  b7 : b ≤ 7
  ne : b ≠ a
  len : m.length = 8
  told : ∀ v : Int, 0 ≤ v → v < 8 → (v = a ∨ v = b) → 0 ≤ rd k v → rd m v = h.length
  else' : ∀ v : Int, 0 ≤ v → v < 8 → ¬ ((v = a ∨ v = b) ∧ 0 ≤ rd k v) → rd m v = rd k v
theorem rd_snoc (h : List Int) (b u : Int) (u0 : 0 ≤ u) (u1 : u < h.length) : rd (h ++ [b]) u = rd h u := by
  have := rd_append_lt h [b] u.toNat (by omega)
  rwa [show ((u.toNat : Nat) : Int) = u by omega] at this
theorem Moved.up {h k m : List Int} {a b : Int} (M : Moved h k m a b) (v : Int) (v0 : 0 ≤ v) (v8 : v < 8) : (0 ≤ rd m v ↔ 0 ≤ rd k v) ∧ (rd k v = -1 → rd m v = -1) := by
  by_cases h1 : (v = a ∨ v = b) ∧ 0 ≤ rd k v
  · have := M.told v v0 v8 h1.1 h1.2
    omega
  · have := M.else' v v0 v8 h1
    omega
theorem Moved.valid {h k m : List Int} {a b lag : Int} (M : Moved h k m a b) (H : VK h k lag) (hlag : lag + 1 ≤ 10) (hlen : h.length ≤ 12) : VK (h ++ [b]) m (lag + 1) := by
  have h1 := H.len1
  have hl0 := H.lag0
  have hg : (h ++ [b]).length = h.length + 1 := by simp
  have hlast : rd (h ++ [b]) h.length = b := rd_append_eq h b
  refine ⟨by omega, by omega, fun i i0 i1 => ?_, M.len, by omega, hlag, fun c c0 c8 => ?_⟩
  · by_cases hi : i < h.length
    · rw [rd_snoc h b i i0 hi]; exact H.hold i i0 hi
    · have : i = h.length := by omega
      subst this
      rw [hlast]; exact ⟨M.b0, M.b7⟩
  · rw [hg]
    by_cases h2 : (c = a ∨ c = b) ∧ 0 ≤ rd k c
    · rw [M.told c c0 c8 h2.1 h2.2]
      exact .inr ⟨by omega, by omega, by omega, fun u u1 u2 _ _ => by omega⟩
    · rw [M.else' c c0 c8 h2]
      rcases H.known c c0 c8 with h3 | ⟨h3, h4, h5, h6⟩
      · exact .inl h3
      · refine .inr ⟨h3, by omega, by omega, fun u u1 u2 hne hor => ?_⟩
        by_cases hu : u < h.length
        · rw [rd_snoc h b u (by omega) hu, rd_snoc h b (u - 1) (by omega) (by omega)] at hne hor
          exact h6 u u1 hu hne hor
        · have : u = h.length := by omega
          subst this
          rw [hlast, rd_snoc h b _ (by omega) (by omega), ← M.eqa] at hor
          exfalso
          apply h2
          rcases hor with ho | ho
          · exact ⟨.inr ho.symm, h3⟩
          · exact ⟨.inl ho.symm, h3⟩
/-- As long as the new path has come to neither party it is the old one. -/
theorem Moved.pair {h k m : List Int} {a b lag c e e' : Int} {p q : List HP} (M : Moved h k m a b) (H : VK h k lag) (c0 : 0 ≤ c) (c8 : c < 8) (hk : 0 ≤ rd k c)
    (P : Path h k c (-1) p e) (Q : Path (h ++ [b]) m c (-1) q e') : ∀ i : Nat, i < q.length → (∀ j : Nat, j < i → ¬ ((rdH q j).f0 = a ∨ (rdH q j).f0 = b)) →
      i < p.length ∧ (rdH p i).f0 = (rdH q i).f0 ∧ (¬ ((rdH q i).f0 = a ∨ (rdH q i).f0 = b) → rdH p i = rdH q i) := by
  intro i
  induction i with
  | zero =>
    intro _ _
    rw [P.first, Q.first]
    refine ⟨P.ne, rfl, fun hn => ?_⟩
    rw [M.else' c c0 c8 (fun h => hn h.1)]
  | succ i ih =>
    intro hi hj
    obtain ⟨p1, p2, p3⟩ := ih (by omega) (fun j hji => hj j (by omega))
    have he := p3 (hj i (by omega))
    obtain ⟨n1, n2, n3, n4⟩ := Q.next i hi
    obtain ⟨a0, a1, a2, a3, a4, a5, a6⟩ := P.all H c0 c8 hk i p1
    rw [← he, rd_snoc h b _ a4 a5] at n1 n2 n3 n4
    have hh := H.hold _ a4 a5
    have hup := M.up (rd h (rdH p i).f1) n2 (by omega)
    have hlt : i + 1 < p.length := by
      rcases Nat.lt_or_ge (i + 1) p.length with h | h
      · exact h
      · exfalso
        have hl := P.last
        rw [show p.length - 1 = i by omega] at hl
        unfold EndAt at hl
        rcases hl with ⟨_, h4⟩ | ⟨_, h4, h5⟩ | ⟨_, h4, h5, h6⟩
        · exact n1 h4
        · omega
        · omega
    obtain ⟨m1, m2, m3, m4⟩ := P.next i hlt
    rw [n4, m4]
    refine ⟨hlt, rfl, fun hn => ?_⟩
    rw [M.else' _ n2 (by omega) (fun h => hn h.1)]
theorem Moved.stop {h k m : List Int} {a b lag c e e' : Int} {p q : List HP} (M : Moved h k m a b) (H : VK h k lag) (c0 : 0 ≤ c) (c8 : c < 8) (hk : 0 ≤ rd k c)
    (P : Path h k c (-1) p e) (Q : Path (h ++ [b]) m c (-1) q e') (hj : ∀ j : Nat, j < q.length → ¬ ((rdH q j).f0 = a ∨ (rdH q j).f0 = b)) : p.length = q.length := by
  have hq := Q.ne
  obtain ⟨p1, p2, p3⟩ := M.pair H c0 c8 hk P Q (q.length - 1) (by omega) (fun j _ => hj j (by omega))
  have he := p3 (hj _ (by omega))
  rcases Nat.lt_or_ge q.length p.length with hlt | hge
  · exfalso
    obtain ⟨m1, m2, m3, m4⟩ := P.next (q.length - 1) (by omega)
    obtain ⟨a0, a1, a2, a3, a4, a5, a6⟩ := P.all H c0 c8 hk (q.length - 1) p1
    have hh := H.hold _ a4 a5
    have hup := M.up (rd h (rdH p (q.length - 1)).f1) m2 (by omega)
    have hl := Q.last
    rw [← he] at hl
    unfold EndAt at hl
    rw [rd_snoc h b _ a4 a5] at hl
    rcases hl with ⟨_, h4⟩ | ⟨_, h4, h5⟩ | ⟨_, h4, h5, h6⟩
    · exact m1 h4
    · omega
    · omega
  · omega
theorem moves_cmp {h k m : List Int} {a b lag c e e' : Int} {p q : List HP} (M : Moved h k m a b) (H : VK h k lag) (hlag : lag + 1 ≤ 10) (hlen : h.length ≤ 12) (c0 : 0 ≤ c) (c8 : c < 8) (hk : 0 ≤ rd k c)
    (P : Path h k c (-1) p e) (Q : Path (h ++ [b]) m c (-1) q e') : ∀ (d i : Nat), i + d = q.length → (∀ j : Nat, j < i → ¬ ((rdH q j).f0 = a ∨ (rdH q j).f0 = b)) →
      Ev (fun n => dialtonelaw24_RouteMoves.l1 n a b p q i) true := by
  have hs := P.short H c0 c8 hk
  have hs' := Q.short (M.valid H hlag hlen) c0 c8 (((M.up c c0 c8).1).mpr hk)
  intro d
  induction d with
  | zero =>
    intro i hi hj
    have hl := M.stop H c0 c8 hk P Q (fun j hjq => hj j (by omega))
    refine Ev.step (f := fun _ => some true) (fun n => ?_) (Ev.now _)
    simp only [dialtonelaw24_RouteMoves.l1]
    rw [if_neg (by omega), hl]
    simp
  | succ d ih =>
    intro i hi hj
    obtain ⟨p1, p2, p3⟩ := M.pair H c0 c8 hk P Q i (by omega) hj
    have at5 : ∀ x, ((rdH q i).f0 = a ∨ (rdH q i).f0 = b ↔ x = true) → Ev (fun n => dialtonelaw24_RouteMoves.j5 n a b p q i x) true := by
      intro x hx
      by_cases hab : (rdH q i).f0 = a ∨ (rdH q i).f0 = b
      · rw [hx.mp hab]
        refine Ev.step (f := fun _ => some true) (fun n => ?_) (Ev.now _)
        simp only [dialtonelaw24_RouteMoves.j5]
        rw [if_pos trivial, if_neg (by omega), if_pos (by omega), if_pos (by omega), if_pos (by omega)]
        change some ((rdH p i).f0 == (rdH q i).f0) = _
        rw [p2]; simp
      · have hf : x = false := by cases x with | false => rfl | true => exact absurd (hx.mpr rfl) hab
        subst hf
        refine Ev.step (fun n => ?_) (ih (i + 1) (by omega) (fun j hji => by
          rcases Nat.lt_or_ge j i with h | h
          · exact hj j h
          · have : j = i := by omega
            subst this; exact hab))
        simp only [dialtonelaw24_RouteMoves.j5]
        rw [if_neg (by decide), if_neg (by omega), if_pos (by omega), if_pos (by omega), if_pos (by omega)]
        change (if (!((rdH p i).f0 == (rdH q i).f0) || !((rdH p i).f1 == (rdH q i).f1)) = true then none else dialtonelaw24_RouteMoves.l1 n a b p q (wrap64 ((i : Int) + 1))) = _
        rw [p3 hab, if_neg (by simp), w64 (by unfold I64; omega)]
        rfl
    by_cases ha : (rdH q i).f0 = a
    · refine Ev.step (fun n => ?_) (at5 true (by simp [ha]))
      simp only [dialtonelaw24_RouteMoves.l1]
      change (if (i : Int) < q.length then (if 0 ≤ (i : Int) then (if (rdH q i).f0 = a then _ else _) else _) else _) = _
      rw [if_pos (by omega), if_pos (by omega), if_pos ha]
    · refine Ev.step (fun n => ?_) (at5 ((rdH q i).f0 == b) (by simp [ha]))
      simp only [dialtonelaw24_RouteMoves.l1]
      change (if (i : Int) < q.length then (if 0 ≤ (i : Int) then (if (rdH q i).f0 = a then _ else dialtonelaw24_RouteMoves.j5 n a b p q i ((rdH q i).f0 == b)) else _) else _) = _
      rw [if_pos (by omega), if_pos (by omega), if_neg ha]
/-- One party is told. -/
def upd (k : List Int) (N v : Int) : List Int := if 0 ≤ v ∧ 0 ≤ rd k v then k.set v.toNat N else k
theorem upd_len (k : List Int) (N v : Int) : (upd k N v).length = k.length := by unfold upd; split <;> simp
theorem upd_at (k : List Int) (N v u : Int) (hk : k.length = 8) (v8 : v < 8) (u0 : 0 ≤ u) (u8 : u < 8) : rd (upd k N v) u = if u = v ∧ 0 ≤ rd k u then N else rd k u := by
  unfold upd
  by_cases h : 0 ≤ v ∧ 0 ≤ rd k v
  · rw [if_pos h, rd_set'' _ _ _ _ (by omega)]
    by_cases huv : u = v
    · subst huv; rw [if_pos rfl, if_pos ⟨rfl, h.2⟩]
    · rw [if_neg (by omega), if_neg (fun hh => huv hh.1)]
  · rw [if_neg h]
    by_cases huv : u = v ∧ 0 ≤ rd k u
    · obtain ⟨rfl, h2⟩ := huv; exact absurd ⟨u0, h2⟩ h
    · rw [if_neg huv]
theorem upd_moved {h k : List Int} {a b lag : Int} (H : VK h k lag) (ha : a = rd h ((h.length : Int) - 1)) (b0 : -1 ≤ b) (b7 : b ≤ 7) (hne : b ≠ a) : Moved h k (upd (upd k h.length a) h.length b) a b := by
  have hkl := H.klen
  have h1 := H.len1
  have hh := H.hold ((h.length : Int) - 1) (by omega) (by omega)
  rw [← ha] at hh
  refine ⟨ha, b0, b7, hne, by rw [upd_len, upd_len, hkl], fun v v0 v8 hab hv => ?_, fun v v0 v8 hn => ?_⟩
  · rw [upd_at _ _ _ _ (by rw [upd_len, hkl]) (by omega) v0 v8, upd_at _ _ _ _ hkl (by omega) v0 v8]
    rcases hab with rfl | rfl
    · rw [if_pos (show v = v ∧ 0 ≤ rd k v from ⟨rfl, hv⟩)]
      split <;> rfl
    · have hn : ¬ (v = a ∧ 0 ≤ rd k v) := fun hx => hne hx.1
      rw [if_neg hn, if_pos ⟨rfl, hv⟩]
  · rw [upd_at _ _ _ _ (by rw [upd_len, hkl]) (by omega) v0 v8, upd_at _ _ _ _ hkl (by omega) v0 v8]
    have e1 : ¬ (v = a ∧ 0 ≤ rd k v) := fun hx => hn ⟨.inl hx.1, hx.2⟩
    rw [if_neg e1, if_neg (fun hx => hn ⟨.inr hx.1, hx.2⟩)]
theorem moves_round {h k g m : List Int} {lag z a b v : Int} (i : Nat) (n : Nat) (hm : m.length = 8) (hv7 : v ≤ 7) (hi : i < 2) (hv : rd [a, b] i = v) (hg : g.length = h.length + 1) (hlen : h.length ≤ 12) :
    dialtonelaw24_RouteMoves.l0 (n + 1) z h k lag a b g m [a, b] 2 i = dialtonelaw24_RouteMoves.l0 n z h k lag a b g (upd m h.length v) [a, b] 2 ((i + 1 : Nat) : Int) := by
  have e2 : wrap64 ((g.length : Int) - 1) = h.length := by rw [w64 (by unfold I64; omega)]; omega
  have e3 : wrap64 ((i : Int) + 1) = ((i + 1 : Nat) : Int) := by rw [w64 (by unfold I64; omega)]; omega
  simp only [dialtonelaw24_RouteMoves.l0]
  rw [e2, e3, hv, if_pos (by omega), if_pos (by omega), if_pos (by simp; omega)]
  unfold upd
  by_cases h0 : 0 ≤ v
  · rw [if_pos h0, if_pos h0, if_pos (by omega)]
    by_cases h1 : 0 ≤ rd m v
    · rw [if_pos h1, if_pos ⟨h0, h1⟩]
    · rw [if_neg h1, if_neg (fun h => h1 h.2)]
  · rw [if_neg h0, if_neg (fun h => h0 h.1)]
theorem moves_last {h k m : List Int} {lag z a b c : Int} (M : Moved h k m a b) (H : VK h k lag) (hlag : lag + 1 ≤ 10) (hlen : h.length ≤ 12) (hp : dialtonelaw24_pick.f z 8 = some c) (c0 : 0 ≤ c) (c8 : c < 8) :
    Ev (fun n => dialtonelaw24_RouteMoves.l0 n z h k lag a b (h ++ [b]) m [a, b] 2 2) true := by
  have V := M.valid H hlag hlen
  have hl0 := H.lag0
  have hv : route_Valid.f (h ++ [b]) m (lag + 1) = some true := by unfold route_Valid.f; rw [(valid_iff _ m _).mpr V]
  have e1 : wrap64 (lag + 1) = lag + 1 := w64 (by unfold I64; omega)
  have hup := M.up c c0 c8
  have start : ∀ v, Ev (fun k' => (route_Path.f k' h k lag c).bind fun bt520 => ((route_Path.f k' (h ++ [b]) m (lag + 1) c).bind fun bt525 => (if bt520.2.2 = 0 then (dialtonelaw24_RouteMoves.j3 k' a b bt520.1 bt520.2.2 bt525.1 bt525.2.2 (bt525.2.2 != 0)) else (dialtonelaw24_RouteMoves.j3 k' a b bt520.1 bt520.2.2 bt525.1 bt525.2.2 true)))) v →
      Ev (fun n => dialtonelaw24_RouteMoves.l0 n z h k lag a b (h ++ [b]) m [a, b] 2 2) v := by
    intro v h1
    refine Ev.step (fun n => ?_) h1
    simp only [dialtonelaw24_RouteMoves.l0]
    rw [if_neg (by decide), e1, hv]
    simp only [Option.bind_some, if_true]
    rw [hp]
    rfl
  apply start
  by_cases hk : 0 ≤ rd k c
  · obtain ⟨p, e, s3, P⟩ := path_ev H c0 c8 hk
    obtain ⟨q, e', s4, Q⟩ := path_ev V c0 c8 (hup.1.mpr hk)
    refine Ev.bind s3 ?_
    refine Ev.bind s4 ?_
    refine Ev.congr (fun n => ?_) (Ev.step (g := fun n => dialtonelaw24_RouteMoves.j3 n a b p 0 q 0 false) (fun n => ?_) (moves_cmp M H hlag hlen c0 c8 hk P Q q.length 0 (by omega) (fun j hj => by omega)))
    · dsimp only
      rw [if_pos rfl]
      rfl
    · simp only [dialtonelaw24_RouteMoves.j3]; rw [if_neg (by decide)]; rfl
  · refine Ev.bind (path_down H c0 c8 hk) ?_
    refine Ev.bind (path_down V c0 c8 (fun h => hk (hup.1.mp h))) ?_
    refine Ev.congr (fun n => ?_) (Ev.step (g := fun n => dialtonelaw24_RouteMoves.j3 n a b [] 240 [] 240 true) (f := fun _ => some true) (fun n => ?_) (Ev.now _))
    · dsimp only
      rw [if_neg (by decide)]
    · simp [dialtonelaw24_RouteMoves.j3]
theorem moves_all {h k : List Int} {lag y z c : Int} (H : VK h k lag) (hlag : lag + 1 ≤ 10) (hlen : h.length ≤ 12) (hy : I64 y) (hp : dialtonelaw24_pick.f z 8 = some c) (c0 : 0 ≤ c) (c8 : c < 8) :
    Ev (fun n => dialtonelaw24_RouteMoves.j0 n y z h k lag) true := by
  have h1 := H.len1
  have hkl := H.klen
  have hh := H.hold ((h.length : Int) - 1) (by omega) (by omega)
  have e1 : wrap64 ((h.length : Int) - 1) = (h.length : Int) - 1 := w64 (by unfold I64; omega)
  have main : ∀ b : Int, -1 ≤ b → b ≤ 7 → b ≠ rd h ((h.length : Int) - 1) → Ev (fun n => dialtonelaw24_RouteMoves.j1 n z h k lag (rd h ((h.length : Int) - 1)) b) true := by
    intro b b0 b7 hne
    have M := upd_moved H rfl b0 b7 hne
    have l2 := moves_last M H hlag hlen hp c0 c8
    have hg : (h ++ [b]).length = h.length + 1 := by simp
    have l1 : Ev (fun n => dialtonelaw24_RouteMoves.l0 n z h k lag (rd h ((h.length : Int) - 1)) b (h ++ [b]) (upd k h.length (rd h ((h.length : Int) - 1))) [rd h ((h.length : Int) - 1), b] 2 ((1 : Nat) : Int)) true :=
      Ev.step (fun n => moves_round 1 n (by rw [upd_len, hkl]) b7 (by omega) rfl hg hlen) l2
    have l0 : Ev (fun n => dialtonelaw24_RouteMoves.l0 n z h k lag (rd h ((h.length : Int) - 1)) b (h ++ [b]) k [rd h ((h.length : Int) - 1), b] 2 ((0 : Nat) : Int)) true :=
      Ev.step (fun n => moves_round 0 n hkl hh.2 (by omega) rfl hg hlen) l1
    refine Ev.step (fun n => ?_) l0
    simp only [dialtonelaw24_RouteMoves.j1, Option.bind_some, List.nil_append, List.length_nil, Nat.zero_add]
    rw [if_pos (by omega), if_pos (by omega), if_pos (by omega)]
    rfl
  obtain ⟨d, hd, d0, d9⟩ := pick_tells y 9 hy (by omega)
  have e2 : wrap64 (d - 1) = d - 1 := w64 (by unfold I64; omega)
  by_cases hsame : d - 1 = rd h ((h.length : Int) - 1)
  · have e3 : wrap64 (rd h ((h.length : Int) - 1) + 2) = rd h ((h.length : Int) - 1) + 2 := w64 (by unfold I64; omega)
    obtain ⟨f, hf, f0, f9⟩ := pick_tells (rd h ((h.length : Int) - 1) + 2) 9 (by unfold I64; omega) (by omega)
    have hfv : f = (rd h ((h.length : Int) - 1) + 2) % 9 := by
      unfold dialtoneref24_pick.f at hf
      rw [if_neg (by omega), if_neg (by omega)] at hf
      rw [Int.tmod_eq_emod_of_nonneg (by omega)] at hf
      exact (Option.some.inj hf).symm
    have e4 : wrap64 (f - 1) = f - 1 := w64 (by unfold I64; omega)
    refine Ev.step (fun n => ?_) (main (f - 1) (by omega) (by omega) (by omega))
    simp only [dialtonelaw24_RouteMoves.j0]
    rw [e1, if_pos (by omega), if_pos (by omega), lawpick_eq, hd]
    simp only [Option.bind_some]
    rw [e2, if_pos hsame, e3, lawpick_eq, hf]
    simp only [Option.bind_some]
    rw [e4]
  · refine Ev.step (fun n => ?_) (main (d - 1) (by omega) (by omega) hsame)
    simp only [dialtonelaw24_RouteMoves.j0]
    rw [e1, if_pos (by omega), if_pos (by omega), lawpick_eq, hd]
    simp only [Option.bind_some]
    rw [e2, if_neg hsame]
theorem RouteMoves : dialtonelaw24_RouteMoves.Pure := by
  intro x y lag dest c hx1 hx2 hx hy1 hy2 hy hlag hto hc
  apply Ev.rounds
  obtain ⟨h, kn, l, s2, H, hle, hpl⟩ := made_tells x y lag (fun v hv => i64_of (hx v hv)) (fun v hv => i64_of (hy v hv)) (i64_of hlag)
  obtain ⟨d, hd, d0, d8⟩ := pick_tells c 8 (i64_of hc) (by omega)
  have hl0 := H.lag0
  have hl1 := H.lag1
  unfold dialtonelaw24_RouteMoves.f
  refine Ev.bind sane_ev ?_
  simp only [if_true]
  refine Ev.bind s2 ?_
  dsimp only
  by_cases h10 : l = 10
  · subst h10
    obtain ⟨kn', hk', H'⟩ := known_valid h y 9 H.len1 H.len2 H.hold (by omega) (by omega) (fun v hv => i64_of (hy v hv))
    simp only [if_true, show wrap64 ((10 : Int) - 1) = 9 by rw [w64 (by unfold I64; omega)]; rfl]
    exact Ev.bind hk' (moves_all H' (by omega) hle (i64_of hto) ((lawpick_eq c 8).trans hd) d0 d8)
  · simp only [if_neg h10]
    exact moves_all H (by omega) hle (i64_of hto) ((lawpick_eq c 8).trans hd) d0 d8
end Go.Proofs.Ytmiahmpobpokmaa.Pure
