/- A law's parameters whose cells are all ints: slices of structs and of arrays. No program in sight. -/
import Derived.Test.YtlhhcjlcaacfpaaH
import Derived.Deep.Slices
import Derived.ChangeSame
import Derived.OpenShut
namespace Go.Proofs.YtlhhcjlcaacfpaaL
open Go.RowKit Go.ChangeShapes Go.WideShapes Go.Deep Go.Proofs.YtlhhcjlcaacfpaaW.PrintWords

/-- A type of so many cells, each an int. -/
inductive IntT (P : Program) : TypeId → Nat → Prop
 | int {t : TypeId} : P.underlying t = some (.int .i64) → P.cellsOf t = 1 → IntT P t 1
 | arr {t e : TypeId} {n m : Nat} : P.underlying t = some (.array n e) → P.cellsOf e = m → 0 < m → P.cellsOf t = n * m → IntT P e m → IntT P t (n * m)
 | struct {t : TypeId} {fs : Array Field} {N : Nat} (ix m : Nat → Nat) : P.underlying t = some (.struct fs) → P.cellsOf t = N → (∀ j, j < N → ∃ f, fs[ix j]? = some f ∧ P.cellsOf f.type = m j ∧ f.offset ≤ j ∧ j < f.offset + m j) → (∀ j, j < N → ∀ f, fs[ix j]? = some f → IntT P f.type (m j)) → IntT P t N
section
variable {H : Type} {enc : TypeId × Value → H} {P : Program} {w : World} {base : Nat} {spare : Nat → Bool} {held : Bool}
theorem trod_array {t e : TypeId} {n fuel : Nat} {cs : List Value} {x : DataW H × List MemPlace} (ht : P.underlying t = some (.array n e)) (h : DataW.trod enc P w base spare held fuel t cs = some x) :
  ∃ m, cs.length = P.cellsOf t ∧ ∀ i, i < n → ∃ y, DataW.trod enc P w base spare held m e ((cs.drop (i * P.cellsOf e)).take (P.cellsOf e)) = some y := by
 cases fuel with
 | zero => simp [DataW.trod] at h
 | succ m =>
  unfold DataW.trod at h
  rw [ht] at h
  split at h <;> simp_all
  obtain ⟨hl, xs, hp, hd⟩ := h
  refine ⟨m, fun i hi => ?_⟩
  have hlen := mapM_some_length hp
  have hg := mapM_some_get hp i i (by simp [hi])
  have hxi : i < xs.length := by simp at hlen; omega
  rw [List.getElem?_eq_getElem hxi] at hg
  exact ⟨_, _, hg⟩
theorem trod_intT {t : TypeId} {N : Nat} (hT : IntT P t N) : ∀ {fuel : Nat} {cs : List Value} {x : DataW H × List MemPlace}, DataW.trod enc P w base spare held fuel t cs = some x →
  cs.length = N ∧ ∀ (j : Nat) (v : Value), cs[j]? = some v → ∃ a : Int, v = Value.int .i64 a ∧ (Lit.int .i64 a).wf = true := by
 induction hT with
 | int ht hc =>
  intro fuel cs x h
  obtain ⟨a, rfl, _, hw⟩ := DataW.trod_int ht h
  refine ⟨rfl, fun j v hj => ?_⟩
  rcases j with _ | j
  ·simp at hj; exact ⟨a, hj.symm, by first | exact hw | exact hw.2 | exact hw.1⟩
  ·simp at hj
 | @arr t e n m ht he hm hc hT ih =>
  intro fuel cs x h
  obtain ⟨k, hl, hf⟩ := trod_array ht h
  refine ⟨by rw [hl, hc], fun j v hj => ?_⟩
  have hjl : j < n * m := by
   have := (List.getElem?_eq_some_iff.1 hj).1
   omega
  have hi : j / m < n := (Nat.div_lt_iff_lt_mul hm).2 hjl
  obtain ⟨y, hy⟩ := hf (j / m) hi
  rw [he] at hy
  refine (ih hy).2 (j % m) v ?_
  rw [List.getElem?_take_of_lt (Nat.mod_lt _ hm), List.getElem?_drop]
  rw [show j / m * m + j % m = j by rw [Nat.mul_comm]; exact Nat.div_add_mod j m]
  exact hj
 | @struct t fs N ix m ht hc hcov _ ih =>
  intro fuel cs x h
  obtain ⟨xs, k, _, _, hl, hxl, hf⟩ := DataW.trod_struct ht h
  refine ⟨by rw [hl, hc], fun j v hj => ?_⟩
  have hjl : j < N := by
   have := (List.getElem?_eq_some_iff.1 hj).1
   omega
  obtain ⟨f, hfi, hcm, h1, h2⟩ := hcov j hjl
  have h3 := @ih j hjl f hfi
  have hg := hf (ix j) f hfi
  have hxi : ix j < xs.length := by
   have := (Array.getElem?_eq_some_iff.1 hfi).1
   omega
  rw [List.getElem?_eq_getElem hxi, hcm] at hg
  refine (h3 hg).2 (j - f.offset) v ?_
  rw [List.getElem?_take_of_lt (by omega), List.getElem?_drop, show f.offset + (j - f.offset) = j by omega]
  exact hj
/-- A slice whose elements' cells are ints, opened. -/
theorem open_int_cells {t e : TypeId} {N fuel : Nat} {a : Option Addr} {len cap : Nat} {x : DataW H × List MemPlace} (ht : P.underlying t = some (.slice e)) (he : IntT P e N) (ce : P.cellsOf e = N)
  (h : DataW.trod enc P w base spare held fuel t [.slice a len cap] = some x) :
  len ≤ cap ∧ len ≤ maxLen ∧ ∃ q : Nat → Nat → Int, (len = 0 ∨ ∃ ad, a = some ad ∧ ∀ i, i < len → ∀ j, j < N → w.cell? (ad.add (i * N + j)) = some (.int .i64 (q i j)) ∧ (Lit.int .i64 (q i j)).wf = true) := by
 rcases open_slice ht h with ⟨hcs, _⟩ | ⟨ad, l, c, m, n, D, Pl, hcs, hb, hl, hm, hmm, _, hx⟩
 ·simp at hcs
  obtain ⟨rfl, rfl, rfl⟩ := hcs
  exact ⟨Nat.le_refl _, Nat.zero_le _, fun _ _ => 0, .inl rfl⟩
 ·simp at hcs
  obtain ⟨rfl, rfl, rfl⟩ := hcs
  have hlm : len ≤ m := by rw [hmm]; split <;> omega
  have each : ∀ i j, i < len → j < N → ∃ z : Int, w.cell? (ad.add (i * N + j)) = some (.int .i64 z) ∧ (Lit.int .i64 z).wf = true := by
   intro i j hi hj
   obtain ⟨cs', h1, h2⟩ := hx i (by omega)
   obtain ⟨hlen, hv⟩ := trod_intT he h2
   rw [ce] at h1
   obtain ⟨_, _, hcell⟩ := World.cells?_some h1
   have hjl : j < cs'.length := by omega
   obtain ⟨z, hz, hw⟩ := hv j _ (List.getElem?_eq_getElem hjl)
   refine ⟨z, ?_, hw⟩
   have hc := hcell j hj
   rw [Go.Deep.add_add] at hc
   rw [hc, List.getElem?_eq_getElem hjl, hz]
  refine ⟨hl, Nat.le_trans hl hm, fun i j => if hi : i < len ∧ j < N then (each i j hi.1 hi.2).choose else 0, .inr ⟨ad, rfl, fun i hi j hj => ?_⟩⟩
  simp only [dif_pos (show i < len ∧ j < N from ⟨hi, hj⟩)]
  exact (each i j hi hj).choose_spec
end
/-- .. and read as a row of values. -/
theorem C_int_cells {α : Type} {d : Kd α} {W : World} {N : Nat} (hsz : d.sz = N) (mk : (Nat → Int) → α) (cells : (Nat → Int) → List Value) (hK : ∀ f, d.K W (mk f) (cells f)) (hcells : ∀ f j u, (cells f)[j]? = some u → j < N ∧ u = .int .i64 (f j))
  {a : Option Addr} {len : Nat} {q : Nat → Nat → Int} (hlen : len ≤ maxLen) (hq : len = 0 ∨ ∃ ad, a = some ad ∧ ∀ i, i < len → ∀ j, j < N → W.cell? (ad.add (i * N + j)) = some (.int .i64 (q i j)) ∧ (Lit.int .i64 (q i j)).wf = true) :
  Kd.C d W a ((List.range len).map fun i => mk (q i)).length ((List.range len).map fun i => mk (q i)) := by
 have hl : ((List.range len).map fun i => mk (q i)).length = len := by simp
 refine ⟨rfl, ?_, fun h0 => ?_⟩
 ·rw [hl]; simp only [maxLen] at hlen; omega
 ·rw [hl] at h0
  rcases hq with hq | ⟨ad, rfl, hq⟩
  ·omega
  ·refine ⟨ad, rfl, fun j p hp => ?_⟩
   have hj : j < len := by
    have := (List.getElem?_eq_some_iff.1 hp).1
    omega
   have hpq : p = mk (q j) := by
    simp [hj] at hp
    exact hp.symm
   subst hpq
   refine ⟨cells (q j), d.K_len (hK _), hK _, fun i u hu => ?_⟩
   obtain ⟨hi, rfl⟩ := hcells _ _ _ hu
   rw [hsz]
   exact (hq j hj i hi).1
end Go.Proofs.YtlhhcjlcaacfpaaL
