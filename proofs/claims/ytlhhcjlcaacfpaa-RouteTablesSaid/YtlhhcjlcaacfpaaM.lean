/- A set of whole numbers in a map, its keys collected in whatever order, and sorted by the library. No program in sight. -/
import Derived.Test.YtlhhcjlcaacfpaaR
import Derived.Sort.OwnSortedInts
import Derived.Maps.OwnIn
import Derived.Maps.Views
import Derived.Maps.RangeWalk
import Derived.Sort.MapsRangeIn
import Derived.Maps.Keyed
import Derived.Sort.KeysCollected
namespace Go.Proofs.YtlhhcjlcaacfpaaM
open Go.RowKit Go.Proofs.YtlhhcjlcaacfpaaW.PrintWords Go.Proofs.YtlhhcjlcaacfpaaW.PrintLast Go.Proofs.YtlhhcjlcaacfpaaH Go.Proofs.YtlhhcjlcaacfpaaR Go.Maps Go.Sort

/-- Datum D is a map whose keys are just the numbers of a list. -/
def SetIs (D : DataW Unit) (ls : List Int) : Prop := IsMap D ∧ ∀ x : Int, Maps.has D (.int .i64 x) = true ↔ x ∈ ls
theorem SetIs.start : SetIs (.map []) [] := ⟨⟨[], rfl⟩, fun x => by simp [Maps.has]⟩
theorem SetIs.put {D : DataW Unit} {ls : List Int} (h : SetIs D ls) (c : Int) (d : DataW Unit) : SetIs (D.put (.int .i64 c) d) (ls ++ [c]) := by
 refine ⟨h.1.put _ _, fun x => ?_⟩
 by_cases hx : x = c
 ·subst hx
  rw [has_put_same h.1 (by trivial)]
  simp
 ·rw [has_put_other (fun e => hx (by injection e)), h.2 x]
  simp [hx]
theorem Keeps.ownsMap {Z : Nat → Prop} {A B : World} {P : Program} {k : TypeId} {R : Value → Option (DataW Unit × List MemPlace)} {b n : Nat} {D : DataW Unit} (hk : Keeps Z A B) (h : A.ownsMap P k R b n D) (hz : Z b) : B.ownsMap P k R b n D := by
 obtain ⟨es, clock, hb, F, hs, hD⟩ := h
 exact ⟨es, clock, hk.heap hb hz, F, hs, hD⟩
theorem plainElem_bool_inv {P : Program} {e : TypeId} (he : P.underlying e = some .bool) {v : Value} {z : DataW Unit × List MemPlace} (h : plainElem P e v = some z) : ∃ c, v = .bool c := by
 unfold plainElem at h
 rw [he] at h
 cases v <;> simp at h
 exact ⟨_, rfl⟩

/-- Keys met so far: no key twice; on the list just where the map has it and it is no longer to come. -/
def CollI (D0 : DataW Unit) (left : Lit → Bool) (ss : List Int) : Prop := ss.Nodup ∧ ∀ x : Int, x ∈ ss ↔ (Maps.has D0 (.int .i64 x) = true ∧ left (.int .i64 x) = false)
theorem CollI.start (D0 : DataW Unit) : CollI D0 (Maps.has D0) [] := ⟨List.nodup_nil, fun x => by cases Maps.has D0 (.int .i64 x) <;> simp⟩
theorem CollI.step {D0 : DataW Unit} {left : Lit → Bool} {ss : List Int} (h : CollI D0 left ss) {x : Int} {y : DataW Unit} (hlk : left (.int .i64 x) = true) (hat : ∀ zd, D0.atKey (.int .i64 x) zd = y) : CollI D0 (fun z => left z && !z.sameKey (.int .i64 x)) (ss ++ [x]) := by
 have hhas : Maps.has D0 (.int .i64 x) = true := has_true_of_atKey hat
 have hnew : x ∉ ss := fun hx => by have := ((h.2 x).1 hx).2; rw [hlk] at this; cases this
 refine ⟨List.nodup_append.2 ⟨h.1, by simp, fun a ha b hb => by simp at hb; subst hb; exact fun e => hnew (e ▸ ha)⟩, fun y => ?_⟩
 by_cases hy : y = x
 ·subst hy; simp [hhas, Lit.sameKey]
 ·simp [h.2 y, hy, Lit.sameKey]

/-- The numbers from -1 to 7 of a list, ascending, each once. -/
def canonL (hs : List Int) : List Int := ((List.range 9).map (fun i : Nat => (i : Int) - 1)).filter (fun c => hs.contains c)
theorem canonL_mem {hs : List Int} {x : Int} : x ∈ canonL hs ↔ (-1 ≤ x ∧ x ≤ 7) ∧ x ∈ hs := by
 simp only [canonL, List.mem_filter, List.mem_map, List.mem_range, List.contains_iff_mem]
 constructor
 ·rintro ⟨⟨i, hi, rfl⟩, h⟩
  exact ⟨by omega, h⟩
 ·rintro ⟨h1, h⟩
  exact ⟨⟨(x + 1).toNat, by omega, by omega⟩, h⟩
theorem canonL_sorted (hs : List Int) : (canonL hs).Pairwise (fun a b => a < b) := by
 unfold canonL
 refine List.Pairwise.filter _ ?_
 decide
theorem sorted_canon {ss hs : List Int} (hnd : ss.Nodup) (hm : ∀ x, x ∈ ss ↔ x ∈ hs) (hr : ∀ x ∈ hs, -1 ≤ x ∧ x ≤ 7) : ss.mergeSort (fun x y => decide (x ≤ y)) = canonL hs := by
 have tr : ∀ a b c : Int, decide (a ≤ b) = true → decide (b ≤ c) = true → decide (a ≤ c) = true := fun a b c h1 h2 => by simp only [decide_eq_true_eq] at *; omega
 have tot : ∀ a b : Int, (decide (a ≤ b) || decide (b ≤ a)) = true := fun a b => by simp only [Bool.or_eq_true, decide_eq_true_eq]; omega
 refine List.Perm.eq_of_pairwise (le := fun a b => decide (a ≤ b) = true) (fun a b _ _ h1 h2 => ?_) (List.pairwise_mergeSort tr tot ss) ((canonL_sorted hs).imp fun {a b} h => by simp; omega) ((List.mergeSort_perm ss _).trans ?_)
 ·simp only [decide_eq_true_eq] at h1 h2
  omega
 ·refine (List.perm_ext_iff_of_nodup hnd ((canonL_sorted hs).imp fun {a b} h e => by omega)).2 fun x => ?_
  rw [hm x, canonL_mem]
  exact ⟨fun h => ⟨hr x h, h⟩, fun h => h.2⟩
theorem CollI.sorted {D0 : DataW Unit} {left : Lit → Bool} {ss hs : List Int} (h : CollI D0 left ss) (hl : ∀ kl, left kl = false) (hs' : SetIs D0 hs) (hr : ∀ x ∈ hs, -1 ≤ x ∧ x ≤ 7) : ss.mergeSort (fun x y => decide (x ≤ y)) = canonL hs :=
 sorted_canon h.1 (fun x => by rw [h.2 x, hs'.2 x, hl]; simp) hr

/-- BEHIND THE SORT the same slice owns the sorted list. -/
theorem R_sortedI {t : Nat} {W : World} {base g cap n : Nat} {ok : Nat → Prop} {xs ts : List Int} {os : Array Obj} (h : (Kd.int .i64).R t W base ok (.slice (some ⟨g, 0, none⟩) xs.length cap) xs) (hl : ts.length = xs.length) :
  (Kd.int .i64).R t (grow (putRow (Value.int .i64) (Sort.ahead W n) g 0 ts.toArray) os) base ok (.slice (some ⟨g, 0, none⟩) xs.length cap) ts := by
 have ho := Kd.own_of_R h
 rcases ho.2 with ⟨hnil, _⟩ | ⟨g', cap', cur, e, hbase, hb, h1, h2, h3, h4⟩
 ·cases hnil
 ·injection e with e1 e2 e3
  injection e1 with e1
  injection e1 with e1
  subst e1
  subst e3
  have hw := ownsRow_sortedI (n := n) (os := os) hl hbase hb h1 h2 h3
  refine Kd.R_of_own (enc := Value.int .i64) (by rw [hl]; exact hw) h.1
theorem R_holdsI {t : Nat} {W : World} {base g cap : Nat} {ok : Nat → Prop} {xs : List Int} (h : (Kd.int .i64).R t W base ok (.slice (some ⟨g, 0, none⟩) xs.length cap) xs) : Holds (Value.int .i64) W g 0 xs.toArray ∧ g < W.heap.size := by
 have ho := Kd.own_of_R h
 rcases ho.2 with ⟨hnil, _⟩ | ⟨g', cap', cur, e, hbase, hb, h1, h2, h3, h4⟩
 ·cases hnil
 ·injection e with e1 e2 e3
  injection e1 with e1
  injection e1 with e1
  subst e1
  exact ⟨holds_of_blockI hb (by simpa [encs] using h4), (Array.getElem?_eq_some_iff.1 hb).1⟩

/-- 'range' over a set of whole numbers: the step, what it tells kept aside. -/
theorem next_setI {F : Fence} {fn : Nat} {P : Program} {w : World} {ops : Array Oper} {rest : List Oper} {o : Oper} {a : Act} {Q : Exit → Act → World → Prop} (hg : o.guard = none) (it : Operand) (hop : o.op = Op.next it false) (k e : TypeId) (hk : P.underlying k = some (.int .i64)) (he : P.underlying e = some .bool)
  (b r n : Nat) (D : DataW Unit) (left : Lit → Bool) (cnt : Nat) (hit : a.eval it = .pointer (some ⟨r, 0, none⟩)) (h : w.ranges P k (plainElem (H := Unit) P e) b r n D left cnt)
  (hDone : Aside0 (∀ kl, left kl = false) → wpListIn F fn P ops Q rest (a.put o.dst (.tuple #[.bool false])) w)
  (hMore : ∀ (x : Int) (c : Bool) (w' : World) (cnt' : Nat), Aside0 (left (.int .i64 x) = true ∧ (∃ y, ∀ zd, D.atKey (.int .i64 x) zd = y) ∧ w'.ranges P k (plainElem (H := Unit) P e) b r n D (fun z => left z && !z.sameKey (.int .i64 x)) cnt' ∧ cnt' < cnt ∧ w.grownBy w' (some r) ∧ w'.heap.size = w.heap.size) →
   (Instr.entry (.pointer (some ⟨r, 0, none⟩))).run P w' = .ok (.tuple #[.int .i64 x, .bool c]) w' → wpListIn F fn P ops Q rest (a.put o.dst (.tuple #[.bool true, .int .i64 x, .bool c])) w') :
  wpListIn F fn P ops Q (o :: rest) a w :=
 wpListIn_next_ranges w hg it hop k (Maps.int_keyed hk) (plainElem (H := Unit) P e) (Value.int .i64) Value.bool (fun key kl hkey => by obtain ⟨x, rfl, _⟩ := Maps.keyOf_int_inv hk hkey; exact ⟨x, rfl⟩) (fun v y hv => plainElem_bool_inv he hv) b r n D left cnt hit h (fun _ hl => hDone ⟨hl⟩) (fun x c kl y w' cnt' hkey hlk hv hat hrg hlt hg hs hen => by
  obtain ⟨x', ex, rfl, hwx⟩ := Maps.keyOf_int_inv hk hkey
  cases ex
  exact hMore x c w' cnt' ⟨hlk, ⟨_, hat⟩, hrg, hlt, hg, hs⟩ hen)
end Go.Proofs.YtlhhcjlcaacfpaaM
