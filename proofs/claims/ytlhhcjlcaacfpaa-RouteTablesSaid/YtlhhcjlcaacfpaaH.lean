/- General lemmas of this place about worlds: arrays of whole numbers in a block. No program in sight. -/
import Derived.Test.YtlhhcjlcaacfpaaWWords
import Derived.Test.YtlhhcjlcaacfpaaWLast
import Derived.Test.YtlhhcjlcaacfpaaWMore
namespace Go.Proofs.YtlhhcjlcaacfpaaH
open Go.RowKit Go.Proofs.YtlhhcjlcaacfpaaW.PrintWords Go.Proofs.YtlhhcjlcaacfpaaW.PrintLast Go.Proofs.YtlhhcjlcaacfpaaW.PrintMore

/-- Block B of a world holds an array of whole numbers. -/
def Arr (k : IntKind) (t : TypeId) (W : World) (B : Nat) (ls : List Int) : Prop := W.heap[B]? = some (.cells (nums k ls).toArray t (0, 0))
theorem Arr.cell {k : IntKind} {t : TypeId} {W : World} {B : Nat} {ls : List Int} (h : Arr k t W B ls) (i : Nat) (hi : i < ls.length) : W.cell? ⟨B, i, none⟩ = some (.int k (rd ls i)) := by
 rw [blk_cell h i]
 simp [nums, rd, hi]
theorem Arr.frozen {k : IntKind} {t : TypeId} {W : World} {B : Nat} {ls : List Int} (h : Arr k t W B ls) (i : Nat) : W.frozen? ⟨B, i, none⟩ = false := blk_frozen h i
theorem Arr.lt {k : IntKind} {t : TypeId} {W : World} {B : Nat} {ls : List Int} (h : Arr k t W B ls) : B < W.heap.size := blk_lt h
theorem Arr.set {k : IntKind} {t : TypeId} {W : World} {B : Nat} {ls : List Int} (h : Arr k t W B ls) (i : Nat) (v : Int) : Arr k t (W.setCell ⟨B, i, none⟩ (.int k v)) B (ls.set i v) := by
 have := blk_set h i (.int k v)
 unfold Arr
 rw [this]
 simp [nums, List.map_set]
theorem Arr.drewN {k : IntKind} {t : TypeId} {W : World} {B : Nat} {ls : List Int} (h : Arr k t W B ls) (n : Nat) : Arr k t (W.drewN n) B ls := h
theorem Arr.below {k : IntKind} {t : TypeId} {W W' : World} {B : Nat} {ls : List Int} (h : Arr k t W B ls) (hb : Below W.heap.size W W') : Arr k t W' B ls := (hb.block B h.lt).trans h
theorem Arr.alloc {k : IntKind} {t : TypeId} {W : World} {B : Nat} {ls : List Int} (h : Arr k t W B ls) (o : Obj) : Arr k t (W.alloc o) B ls := h.below (below_alloc (Below.refl _ _) o)
theorem Arr.new (k : IntKind) (t : TypeId) (W : World) (ls : List Int) : Arr k t (W.alloc (.cells (nums k ls).toArray t (0, 0))) W.heap.size ls := blk_new _ _

theorem exists_least {R : Nat → Prop} : ∀ n, R n → ∃ d, R d ∧ ∀ e, R e → d ≤ e := by
 intro n
 induction n using Nat.strongRecOn with
 | _ n ih =>
  intro hn
  by_cases h : ∃ m, m < n ∧ R m
  ·obtain ⟨m, hm, hr⟩ := h
   exact ih m hm hr
  ·exact ⟨n, hn, fun e he => by
    rcases Nat.lt_or_ge e n with hl | hl
    ·exact absurd ⟨e, hl, he⟩ h
    ·exact hl⟩
open Classical in
/-- The least number of which R holds (0 if there is none): a loop's measure that stands in no slot. -/
noncomputable def least (R : Nat → Prop) : Nat := if h : ∃ d, R d ∧ ∀ e, R e → d ≤ e then Classical.choose h else 0
theorem least_of {R : Nat → Prop} (h : ∃ d, R d) : ∃ d, R d ∧ d = least R := by
 obtain ⟨n, hn⟩ := h
 have hx := exists_least n hn
 refine ⟨least R, ?_, rfl⟩
 unfold least
 rw [dif_pos hx]
 exact (Classical.choose_spec hx).1
theorem least_le {R : Nat → Prop} {n : Nat} (hn : R n) : least R ≤ n := by
 have hx := exists_least n hn
 unfold least
 rw [dif_pos hx]
 exact (Classical.choose_spec hx).2 n hn
theorem boxed_cell {W : World} {B : Nat} {t : TypeId} {v : Value} (h : W.heap[B]? = some (.cells #[v] t (0, 0))) : W.cell? ⟨B, 0, none⟩ = some v := by rw [blk_cell h 0]; rfl
/-- A row of another element type is apart from a row's blocks. -/
theorem R_types_row {α β : Type} {d : Kd α} {d' : Kd β} {e e' : Nat} {w : World} {base base' n c g : Nat} {ok ok' : Nat → Prop} {v : Value} {xs : List α} {ys : List β}
  (h : d.R e w base ok v xs) (h' : d'.R e' w base' ok' (.slice (some ⟨g, 0, none⟩) n c) ys) (ht : ∀ q, q ∈ e :: d.E → q ≠ e') : d.R e w base (fun k => ok k ∧ k ≠ g) v xs := by
 obtain ⟨inner, ho⟩ := Kd.R_own h'
 obtain ⟨cells, hc⟩ := own_typed ho g rfl
 exact Kd.R_types h hc ht
theorem C_one {α : Type} {d : Kd α} {w : World} {g : Nat} {t : TypeId} {cs : List Value} {x : α} (hb : w.heap[g]? = some (.cells cs.toArray t (0, 0))) (hK : d.K w x cs) : d.C w (some ⟨g, 0, none⟩) 1 [x] := by
 refine ⟨rfl, by omega, fun _ => ⟨_, rfl, fun j p hp => ?_⟩⟩
 rcases j with _ | j
 ·simp only [List.getElem?_cons_zero, Option.some.injEq] at hp
  subst hp
  refine ⟨cs, d.K_len hK, hK, fun i u hu => ?_⟩
  simp only [Nat.zero_mul, Nat.zero_add, add_plain]
  rw [blk_cell hb i]
  simpa using hu
 ·simp at hp
end Go.Proofs.YtlhhcjlcaacfpaaH
