/- When every carrier knows the newest version or none, a path has at most two hops: for all integers that determine holders, the carriers that know nothing, and a carrier. -/
import Derived.Test.YtmiahmpobpokmaaPx0
import Derived.Test.YtmiahmpobpokmaaPx26
import Derived.Test.YtmiahmpobpokmaaPx4
import Derived.Test.YtmiahmpobpokmaaPx6
import Derived.Test.YtmiahmpobpokmaaM24
import Derived.Test.YtmiahmpobpokmaaS24
namespace Go.Proofs.Ytmiahmpobpokmaa.Pure
open Go.RowKit Go.Proofs.Ytmiahmpobpokmaa.P Go.Proofs.Ytmiahmpobpokmaa.T24 Go.Proofs.YtmiahmpobpokmaaW.PrintWords Go.Proofs.YtmiahmpobpokmaaW.PrintLast Go.Proofs.YtmiahmpobpokmaaW.PrintMore
set_option linter.unusedVariables false

/-- Each carrier knows the newest version or none. -/
def NewestK (h k : List Int) : Prop := k.length = 8 ∧ ∀ c : Nat, c < 8 → rd k c = -1 ∨ rd k c = (h.length : Int) - 1
theorem NewestK.valid {h k : List Int} (N : NewestK h k) (h1 : 1 ≤ h.length) (h2 : h.length ≤ 30) (hh : ∀ i : Int, 0 ≤ i → i < h.length → -1 ≤ rd h i ∧ rd h i ≤ 7) : VK h k 0 := by
  refine ⟨h1, h2, hh, N.1, by omega, by omega, fun c c0 c8 => ?_⟩
  have := N.2 c.toNat (by omega)
  rw [show ((c.toNat : Nat) : Int) = c by omega] at this
  rcases this with h | h
  · exact .inl h
  · exact .inr ⟨by omega, by omega, by omega, fun u u1 u2 _ _ => by omega⟩
theorem newest_end {h k : List Int} {t : Int} (N : NewestK h k) (H : VK h k 0) (t0 : 0 ≤ t) (t8 : t < 8) :
    Ev (fun n => (route_Path.f n h k 0 t).bind fun bt399 => (if 0 ≤ t then (if t < (k.length : Int) then (if (rd k t) < 0 then (some (bt399.2.2 == 240)) else (if bt399.2.2 = 0 then ((route_Valid.f h k 0).bind fun t405 => (if t405 = true then (if (bt399.1.length : Int) = 0 then (dialtonelaw24_RouteNewest.j1 n h ((h.length : Int) - 1) k t bt399.1 bt399.2.1 true) else (if 0 < (bt399.1.length : Int) then (dialtonelaw24_RouteNewest.j1 n h ((h.length : Int) - 1) k t bt399.1 bt399.2.1 (!(((rd_T40 bt399.1 0).f0) == t) || (!(((rd_T40 bt399.1 0).f1) == ((h.length : Int) - 1))))) else (none))) else (dialtonelaw24_RouteNewest.j1 n h ((h.length : Int) - 1) k t bt399.1 bt399.2.1 true))) else (dialtonelaw24_RouteNewest.j1 n h ((h.length : Int) - 1) k t bt399.1 bt399.2.1 true))) else (none)) else (none))) true := by
  have hkl := H.klen
  have hh1 := H.len1
  have hv : route_Valid.f h k 0 = some true := by unfold route_Valid.f; rw [(valid_iff h k 0).mpr H]
  by_cases hk : 0 ≤ rd k t
  · obtain ⟨p, e, s3, P⟩ := path_ev H t0 t8 hk
    refine Ev.bind s3 ?_
    have hne := P.ne
    have hs := P.short H t0 t8 hk
    have hkt : rd k t = (h.length : Int) - 1 := by
      have := N.2 t.toNat (by omega)
      rw [show ((t.toNat : Nat) : Int) = t by omega] at this
      omega
    have hf : rdH p 0 = ⟨t, (h.length : Int) - 1⟩ := by
      rw [P.first]
      have hm := mx_le (rd k t) (-1)
      congr 1
      rcases hm.2.2 with e | e <;> omega
    have hj : Ev (fun n => dialtonelaw24_RouteNewest.j1 n h ((h.length : Int) - 1) k t p e false) true := by
      refine Ev.step (f := fun _ => some true) (fun n => ?_) (Ev.now _)
      simp only [dialtonelaw24_RouteNewest.j1]
      have hhold := H.hold ((h.length : Int) - 1) (by omega) (by omega)
      rw [if_neg (by decide), if_pos (by omega), if_pos (by omega)]
      have hlast := P.last
      by_cases hlen : p.length = 1
      · rw [hlen] at hlast
        unfold EndAt at hlast
        rw [show 1 - 1 = 0 from rfl, hf] at hlast
        simp only at hlast
        rcases hlast with ⟨rfl, h1⟩ | ⟨rfl, h1, h2⟩ | ⟨rfl, h1, h2, h3⟩
        · rw [h1, if_neg (by omega), if_pos t0, if_pos (by omega), if_neg (by omega), if_pos rfl, if_pos rfl, hlen]; rfl
        · rw [if_pos h1, if_pos rfl, hlen]; rfl
        · rw [if_neg (by omega), if_pos h1, if_pos (by omega), if_pos h3, if_pos rfl, hlen]; rfl
      · have hlen2 : p.length = 2 := by omega
        obtain ⟨n1, n2, n3, n4⟩ := P.next 0 (by omega)
        rw [hf] at n1 n2 n3 n4
        simp only at n1 n2 n3 n4
        have hm := mx_le (rd k (rd h ((h.length : Int) - 1))) ((h.length : Int) - 1)
        have hk2 := H.known (rd h ((h.length : Int) - 1)) n2 (by omega)
        have he : mx (rd k (rd h ((h.length : Int) - 1))) ((h.length : Int) - 1) = (h.length : Int) - 1 := by omega
        rw [he] at n4
        rw [hlen2] at hlast
        unfold EndAt at hlast
        rw [show 2 - 1 = 0 + 1 from rfl, n4] at hlast
        simp only at hlast
        have he1 : e = 1 := by
          rcases hlast with ⟨rfl, h1⟩ | ⟨rfl, h1, h2⟩ | ⟨rfl, h1, h2, h3⟩
          · rfl
          · exact absurd rfl h2
          · exact absurd rfl h2
        subst he1
        rw [if_neg (by omega), if_pos n2, if_pos (by omega), if_neg (by omega), if_neg n1, if_pos rfl, if_pos (by omega), if_pos (by omega)]
        change some ((rdH p 1).f0 == _ && (rdH p 1).f1 == _) = _
        rw [show rdH p 1 = rdH p (0 + 1) from rfl]
        have : rdH p ((1 : Nat) : Int).toNat = rdH p 1 := rfl
        simp [show rdH p 1 = _ from n4]
    refine Ev.congr (fun n => ?_) hj
    rw [if_pos t0, if_pos (by omega), if_neg (by omega), if_pos rfl, hv]
    simp only [Option.bind_some, if_true]
    rw [if_neg (by omega), if_pos (by omega)]
    change dialtonelaw24_RouteNewest.j1 n h _ k t p e (!((rdH p 0).f0 == t) || !((rdH p 0).f1 == _)) = _
    rw [hf]
    simp
  · refine Ev.bind (path_down H t0 t8 hk) ?_
    refine Ev.congr (f := fun _ => some true) (fun n => ?_) (Ev.now _)
    rw [if_pos t0, if_pos (by omega), if_pos (by omega)]
    rfl
theorem newest_loop (h : List Int) (a b : Int) (ha : I64 a) (hb : I64 b) (h1 : 1 ≤ h.length) (h2 : h.length ≤ 30) (hh : ∀ i : Int, 0 ≤ i → i < h.length → -1 ≤ rd h i ∧ rd h i ≤ 7) :
    ∀ (d : Nat) (k : List Int), k.length + d = 8 → (∀ c : Nat, c < k.length → rd k c = -1 ∨ rd k c = (h.length : Int) - 1) →
      Ev (fun n => dialtonelaw24_RouteNewest.l0 n a b h ((h.length : Int) - 1) k k.length) true := by
  intro d
  induction d with
  | zero =>
    intro k hk hx
    have hk8 : k.length = 8 := by omega
    have N : NewestK h k := ⟨hk8, fun c hc => hx c (by omega)⟩
    obtain ⟨t, ht, t0, t8⟩ := pick_tells b 8 hb (by omega)
    refine Ev.step (fun n => ?_) (newest_end N (N.valid h1 h2 hh) t0 t8)
    simp only [dialtonelaw24_RouteNewest.l0]
    rw [if_neg (by omega), lawpick_eq, ht]
    rfl
  | succ d ih =>
    intro k hk hx
    obtain ⟨t, ht, t0, t8⟩ := pick_tells a 256 ha (by omega)
    have hw2 : wrap64 ((k.length : Int) + 1) = ((k.length + 1 : Nat) : Int) := by rw [w64 (by unfold I64; omega)]; omega
    have put : ∀ v : Int, (v = -1 ∨ v = (h.length : Int) - 1) → Ev (fun n => dialtonelaw24_RouteNewest.l0 n a b h ((h.length : Int) - 1) (k ++ [v]) ((k.length + 1 : Nat) : Int)) true := by
      intro v hv
      have := ih (k ++ [v]) (by simp; omega) (fun c hc => by
        rcases Nat.lt_or_ge c k.length with hlt | hge
        · rw [rd_append_lt _ _ _ hlt]; exact hx c hlt
        · have : c = k.length := by simp at hc; omega
          subst this; rw [rd_append_eq]; exact hv)
      simpa using this
    by_cases hbit : Int.tmod (shr .i64 t k.length) 2 = 1
    · refine Ev.step (fun n => ?_) (put (-1) (.inl rfl))
      simp only [dialtonelaw24_RouteNewest.l0]
      rw [if_pos (by omega), lawpick_eq, ht]
      simp only [Option.bind_some]
      rw [if_pos (by omega), if_pos hbit, if_pos (by omega), hw2]
    · refine Ev.step (fun n => ?_) (put ((h.length : Int) - 1) (.inr rfl))
      simp only [dialtonelaw24_RouteNewest.l0]
      rw [if_pos (by omega), lawpick_eq, ht]
      simp only [Option.bind_some]
      rw [if_pos (by omega), if_neg hbit, if_pos (by omega), hw2]
theorem RouteNewest : dialtonelaw24_RouteNewest.Pure := by
  intro x a b hx1 hx2 hx ha hb
  apply Ev.rounds
  obtain ⟨h, kn, l, s2, H, hle, hpl⟩ := made_tells x [] 0 (fun v hv => i64_of (hx v hv)) (fun v hv => by simp at hv) (by unfold I64; omega)
  have hh1 := H.len1
  unfold dialtonelaw24_RouteNewest.f
  refine Ev.bind sane_ev ?_
  simp only [if_true]
  refine Ev.bind s2 ?_
  have := newest_loop h a b (i64_of ha) (i64_of hb) H.len1 H.len2 H.hold 8 [] rfl (fun c hc => by simp at hc)
  dsimp only
  rw [w64 (by unfold I64; omega)]
  exact this
end Go.Proofs.Ytmiahmpobpokmaa.Pure
