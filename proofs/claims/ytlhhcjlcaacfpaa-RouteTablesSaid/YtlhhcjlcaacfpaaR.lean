/- A range over a function: what an iterator promises, what a loop body owes, and the law that joins them. No program in sight. -/
import Derived.Test.YtlhhcjlcaacfpaaH
import Derived.RangeFuncNested
import Derived.RangeFuncBound
import Derived.RangeFuncCalls
import Derived.RangeFuncLeaves
import Derived.OwnWalkIn
import Derived.Sort.BigQuietIn
import Derived.OrdersIn
import Derived.Maps.AppendAt
namespace Go.Proofs.YtlhhcjlcaacfpaaR
open Go.RowKit Go.Proofs.YtlhhcjlcaacfpaaW.PrintWords Go.Proofs.YtlhhcjlcaacfpaaW.PrintLast Go.Proofs.YtlhhcjlcaacfpaaH

/-- From A to B no block of the kind Z that lay in A has turned. -/
structure Keeps (Z : Nat → Prop) (A B : World) : Prop where
 os : B.os = A.os
 tape : B.tape = A.tape
 output : B.output = A.output
 size : A.heap.size ≤ B.heap.size
 block : ∀ k, Z k → k < A.heap.size → B.heap[k]? = A.heap[k]?
theorem Keeps.refl (Z : Nat → Prop) (A : World) : Keeps Z A A := ⟨rfl, rfl, rfl, Nat.le_refl _, fun _ _ _ => rfl⟩
theorem Keeps.trans {Z : Nat → Prop} {A B C : World} (h : Keeps Z A B) (k : Keeps Z B C) : Keeps Z A C :=
 ⟨k.os.trans h.os, k.tape.trans h.tape, k.output.trans h.output, Nat.le_trans h.size k.size, fun i hz hi => (k.block i hz (Nat.lt_of_lt_of_le hi h.size)).trans (h.block i hz hi)⟩
theorem Keeps.mono {Z Z' : Nat → Prop} {A B : World} (h : Keeps Z A B) (hz : ∀ k, Z' k → Z k) : Keeps Z' A B := ⟨h.os, h.tape, h.output, h.size, fun k hk hl => h.block k (hz k hk) hl⟩
theorem Keeps.alloc {Z : Nat → Prop} {A B : World} (h : Keeps Z A B) (o : Obj) : Keeps Z A (B.alloc o) :=
 h.trans ⟨rfl, rfl, rfl, by simp, fun k _ hk => Below.heap_alloc _ _ _ hk⟩
theorem Keeps.drewN {Z : Nat → Prop} {A B : World} (h : Keeps Z A B) (n : Nat) : Keeps Z A (B.drewN n) := ⟨h.os, h.tape, h.output, h.size, h.block⟩
theorem Keeps.drew {Z : Nat → Prop} {A B : World} (h : Keeps Z A B) : Keeps Z A B.drew := ⟨h.os, h.tape, h.output, h.size, h.block⟩
theorem Keeps.setCell {Z : Nat → Prop} {A B : World} (h : Keeps Z A B) {p : Addr} (hp : ¬ Z p.block) (u : Value) : Keeps Z A (B.setCell p u) :=
 h.trans ⟨rfl, rfl, rfl, by simp [World.setCell], fun k hk _ => Below.heap_setCell _ _ _ _ (fun e => hp (e ▸ hk))⟩
theorem Keeps.of_below {Z : Nat → Prop} {A B : World} (h : Below A.heap.size A B) : Keeps Z A B := ⟨h.os, h.tape, h.output, h.size, fun k _ hk => h.block k hk⟩
theorem Keeps.then_below {Z : Nat → Prop} {A B C : World} (h : Keeps Z A B) (k : Below B.heap.size B C) : Keeps Z A C := h.trans (.of_below k)
theorem Keeps.of_grown {Z : Nat → Prop} {A B : World} {row : Option Nat} (h : A.grownBy B row) (hr : ∀ k, row = some k → ¬ Z k) : Keeps Z A B :=
 ⟨h.os, h.tape, h.output, h.size, fun k hk hl => h.block k hl (fun e => hr k e.symm hk)⟩
theorem Keeps.below {Z : Nat → Prop} {A B : World} (h : Keeps Z A B) {n : Nat} (hn : n ≤ A.heap.size) (hz : ∀ k, k < n → Z k) : Below n A B :=
 ⟨h.os, h.tape, h.output, h.size, fun k hk => h.block k (hz k hk) (Nat.lt_of_lt_of_le hk hn)⟩
theorem Keeps.putObj {Z : Nat → Prop} (A : World) (l : Nat) (o : Obj) (hl : ¬ Z l) : Keeps Z A (A.putObj l o) :=
 ⟨rfl, rfl, rfl, by simp, fun k hk _ => World.putObj_heap_other (fun e => hl (e ▸ hk))⟩
theorem Keeps.heap {Z : Nat → Prop} {A B : World} (h : Keeps Z A B) {k : Nat} {o : Obj} (hk : A.heap[k]? = some o) (hz : Z k) : B.heap[k]? = some o := (h.block k hz (Array.getElem?_eq_some_iff.1 hk).1).trans hk
theorem Keeps.arr {Z : Nat → Prop} {A B : World} (h : Keeps Z A B) {kd : IntKind} {t : TypeId} {b : Nat} {ls : List Int} (ha : Arr kd t A b ls) (hz : Z b) : Arr kd t B b ls := h.heap ha hz

/-- WHAT AN ITERATOR PROMISES: it hands the elements of xs to yield, one after the other, as long as yield says yes; between the calls it turns none of the blocks that lay there but its own (mine); it needs the blocks 'keep' as they were. -/
def Iter {α : Type} (P : Program) (g : Nat) (lb : Array Value) (encs : α → Array Value) (mine keep : Nat → Prop) (xs : List α) (w0 : World) : Prop :=
 ∀ (l : Nat) (J Jx : Nat → World → Prop) (W : World), Below w0.heap.size w0 W →
  (∀ i A B, J i A → Keeps (fun k => ¬ mine k) A B → J i B) → (∀ i A B, Jx i A → Keeps (fun k => ¬ mine k) A B → Jx i B) →
  (∀ (i : Nat) (x : α) W1, xs[i]? = some x → J i W1 → YieldAt Fence.wide 0 P l (encs x) W1 fun e W' =>
   (e = .returned (.bool true) ∧ J (i + 1) W' ∧ Keeps keep W1 W') ∨ (e = .returned (.bool false) ∧ Jx i W')) →
  J 0 W →
  CallsIn Fence.wide 0 P g (#[.func (.yield l) #[] #[]] ++ lb) W fun e W' => (∃ v, e = .returned v) ∧ (J xs.length W' ∨ ∃ i, i < xs.length ∧ Jx i W')

theorem Iter.later {α : Type} {P : Program} {g : Nat} {lb : Array Value} {encs : α → Array Value} {mine keep : Nat → Prop} {xs : List α} {w0 w1 : World}
  (h : Iter P g lb encs mine keep xs w0) (hb : Below w0.heap.size w0 w1) : Iter P g lb encs mine keep xs w1 :=
 fun l J Jx W hW hJ hJx hY h0 => h l J Jx W (hb.trans (hW.mono hb.size)) hJ hJx hY h0

/-- How a round may be left. D: the block for deferred calls; D + 1: the loop's record. -/
def LeftAs (D : Nat) (keep : Nat → Prop) (I : Nat → World → Prop) (Ix : Code → Nat → World → Prop) (i : Nat) (W : World) : Exit → Act → World → Prop
 | .normal, _, W' => Keeps (fun k => k = D ∨ k = D + 1 ∨ keep k) W W' ∧ I (i + 1) W'
 | .ret, _, W' => Keeps (fun k => k = D ∨ k = D + 1) W W' ∧ Ix .ret i W'
 | .exit id, _, W' => Keeps (fun k => k = D ∨ k = D + 1) W W' ∧ Ix (.exit id) i W'
 | .goto t, _, W' => Keeps (fun k => k = D ∨ k = D + 1) W W' ∧ Ix (.goto t) i W'
 | .panic _, _, _ => False
 | .outgrown, _, _ => False

variable {P : Program}
/-- THE LAW. I: between two rounds (so many are over). Ix: a round was left by a jump. A: behind the assignment to the loop's variables. -/
theorem range_law {α : Type} {g : Operand} {ps : Array Tmp} {assign body : Code} {Q : Exit → Act → World → Prop} {a : Act} {w : World}
  {gf : Nat} {lb : Array Value} (hg : a.eval g = .func (.func gf) #[] lb) (eg : ∀ args w, (callFunc gf args).run P w = .ok (.enter gf args) w)
  {encs : α → Array Value} {mine keep : Nat → Prop} {xs : List α} {w0 : World} (hit : Iter P gf lb encs mine keep xs w0) (hb0 : Below w0.heap.size w0 w) (hps : ∀ x, (encs x).size = ps.size)
  (hm : ∀ k, mine k → k < w.heap.size) (hkeep : ∀ k, keep k → k < w.heap.size)
  (I : Nat → World → Prop) (Ix : Code → Nat → World → Prop)
  (hI : ∀ i A B, I i A → Keeps (fun k => ¬ mine k ∧ k ≠ w.heap.size ∧ k ≠ w.heap.size + 1) A B → I i B)
  (hIx : ∀ c i A B, Ix c i A → Keeps (fun k => ¬ mine k ∧ k ≠ w.heap.size ∧ k ≠ w.heap.size + 1) A B → Ix c i B)
  (h0 : I 0 w) (As : Nat → α → Act → World → Prop) (hAs : ∀ i x a' A B, As i x a' A → Keeps (fun k => k ≠ w.heap.size + 1) A B → As i x a' B)
  (hassign : ∀ (i : Nat) (x : α) (W : World), xs[i]? = some x → w.heap.size + 1 < W.heap.size → I i W →
   assign.wpIn (Fence.wide.inRound (w.heap.size + 1)) 0 P (Exit.then (fun a' W' => Keeps (fun k => k = w.heap.size ∨ k = w.heap.size + 1 ∨ keep k) W W' ∧ As i x a' W') (fun _ _ _ => False)) { tmps := (ps.zip (encs x)).foldl (fun t (p, v) => t.setIfInBounds p v) a.tmps, defers := [] } W)
  (hbody : ∀ (i : Nat) (x : α) (a' : Act) (W : World), xs[i]? = some x → w.heap.size + 1 < W.heap.size → As i x a' W → body.wpIn (Fence.wide.inRound (w.heap.size + 1)) 0 P (LeftAs w.heap.size keep I Ix i W) a' W)
  (hdone : ∀ W : World, I xs.length W → W.heap[w.heap.size]? = some (.deferred (some [])) → Q .normal { a with defers := { target := .collected w.heap.size, args := #[] } :: a.defers } W)
  (hstop : ∀ (c : Code) (i : Nat) (W : World), i < xs.length → Ix c i W → W.heap[w.heap.size]? = some (.deferred (some [])) → c.wpIn Fence.wide 0 P Q { a with defers := { target := .collected w.heap.size, args := #[] } :: a.defers } W) :
  (Code.rangeFunc g ps assign body).wpIn Fence.wide 0 P Q a w := by
 refine wpIn_rangeFunc fun fn _ => ?_
 obtain ⟨rec, hrec⟩ : ∃ rec : LoopState → Option Code → Loop, rec = fun st pe => { state := st, pending := pe, fn, tmps := a.tmps, params := ps, assign, body, defers := w.heap.size } := ⟨_, rfl⟩
 obtain ⟨W1, hW1⟩ : ∃ W1, (w.alloc (.deferred (some []))).alloc (.loop (rec .ready none)) = W1 := ⟨_, rfl⟩
 have hk1 : Below w.heap.size w W1 := by rw [← hW1]; exact below_alloc (below_alloc (Below.refl _ _) _) _
 have hL1 : W1.heap[w.heap.size + 1]? = some (.loop (rec .ready none)) := by
  rw [← hW1]; have := World.alloc_heap_new (w.alloc (.deferred (some []))) (.loop (rec .ready none)); rwa [World.size_alloc] at this
 have hD1 : W1.heap[w.heap.size]? = some (.deferred (some [])) := by
  rw [← hW1]; exact (Below.heap_alloc _ _ _ (by simp)).trans (World.alloc_heap_new w _)
 refine ⟨w.heap.size + 1, [{ target := .collected w.heap.size, args := #[] }], W1, { target := .fn (.func gf) lb, args := #[.func (.yield (w.heap.size + 1)) #[] #[]] }, W1, gf,
  #[.func (.yield (w.heap.size + 1)) #[] #[]] ++ lb, W1, ?_, ?_, fun _ _ => trivial, ?_, fun h => by simp [Fence.wide] at h, ?_⟩
 ·rw [← hW1, hrec]; exact run_enterLoop_outer _ _ _ _ _
 ·simp only [resolve, hg]
  simp [go_sem]
 ·simp [invoke, go_sem, eg]
 have hS : ∀ {A B : World}, Keeps (fun k => ¬ mine k) A B → Keeps (fun k => ¬ mine k ∧ k ≠ w.heap.size ∧ k ≠ w.heap.size + 1) A B := fun h => h.mono fun _ hk => hk.1
 have hnD : ¬ mine w.heap.size := fun h => by have := hm _ h; omega
 have hnL : ¬ mine (w.heap.size + 1) := fun h => by have := hm _ h; omega
 have hP : ∀ (A : World) (o : Obj), Keeps (fun k => ¬ mine k ∧ k ≠ w.heap.size ∧ k ≠ w.heap.size + 1) A (A.putObj (w.heap.size + 1) o) := fun A o => Keeps.putObj A _ o (fun h => h.2.2 rfl)
 refine (hit (w.heap.size + 1)
  (fun i W => I i W ∧ W.heap[w.heap.size + 1]? = some (.loop (rec .ready none)) ∧ W.heap[w.heap.size]? = some (.deferred (some [])))
  (fun i W => ∃ c, Ix c i W ∧ W.heap[w.heap.size + 1]? = some (.loop (rec .done (some c))) ∧ W.heap[w.heap.size]? = some (.deferred (some [])))
  W1 (hb0.trans (hk1.mono hb0.size))
  (fun i A B hs hk => ⟨hI i A B hs.1 (hS hk), hk.heap hs.2.1 hnL, hk.heap hs.2.2 hnD⟩)
  (fun i A B hs hk => by obtain ⟨c, hc, hl, hd⟩ := hs; exact ⟨c, hIx c i A B hc (hS hk), hk.heap hl hnL, hk.heap hd hnD⟩)
  ?_ ⟨hI 0 w W1 h0 (.of_below hk1), hL1, hD1⟩).mono ?_
 ·rintro i x W hx ⟨hi, hl, hd⟩
  have hlt : w.heap.size + 1 < W.heap.size := (Array.getElem?_eq_some_iff.1 hl).1
  have hy := run_yield (P := P) (args := encs x) hl (by rw [hrec]; exact hps x)
  rw [hrec] at hy
  refine ⟨fn, _, assign, body, hy, roundIn_of_wpIn trivial ?_⟩
  refine wpIn_mono (hassign i x W hx hlt hi) ?_
  rintro e a' Wa hpost
  cases e with
  | normal =>
   obtain ⟨hka, ha⟩ := hpost
   have hla := hka.heap hl (.inr (.inl rfl))
   have hda := hka.heap hd (.inl rfl)
   have hlta : w.heap.size + 1 < Wa.heap.size := Nat.lt_of_lt_of_le hlt hka.size
   refine ⟨_, run_beginRound hla (by rw [hrec]), ?_⟩
   obtain ⟨Wb, hWb⟩ : ∃ Wb, Wa.putObj (w.heap.size + 1) (.loop { rec .ready none with state := .busy }) = Wb := ⟨_, rfl⟩
   rw [hWb]
   have hkb : Keeps (fun k => k ≠ w.heap.size + 1) Wa Wb := by rw [← hWb]; exact Keeps.putObj _ _ _ (fun h => h rfl)
   have hlb : Wb.heap[w.heap.size + 1]? = some (.loop { rec .ready none with state := .busy }) := by rw [← hWb]; exact World.putObj_heap_same hlta
   have hdb : Wb.heap[w.heap.size]? = some (.deferred (some [])) := hkb.heap hda (by omega)
   refine wpIn_mono (hbody i x a' Wb hx (Nat.lt_of_lt_of_le hlta hkb.size) (hAs i x a' Wa Wb ha hkb)) ?_
   have fin : ∀ (jump : Option Code) (W3 : World), Keeps (fun k => k = w.heap.size ∨ k = w.heap.size + 1) Wb W3 →
     (Instr.endRound (w.heap.size + 1) jump).run P W3 = .ok (.bool jump.isNone) (W3.putObj (w.heap.size + 1) (.loop (rec (if jump.isNone then .ready else .done) jump))) ∧
     (W3.putObj (w.heap.size + 1) (.loop (rec (if jump.isNone then .ready else .done) jump))).heap[w.heap.size + 1]? = some (.loop (rec (if jump.isNone then .ready else .done) jump)) ∧
     (W3.putObj (w.heap.size + 1) (.loop (rec (if jump.isNone then .ready else .done) jump))).heap[w.heap.size]? = some (.deferred (some [])) := fun jump W3 hk3 => by
    have hl3 := hk3.heap hlb (.inr rfl)
    have := run_endRound (P := P) jump hl3
    rw [hrec] at this ⊢
    exact ⟨this, World.putObj_heap_same (Array.getElem?_eq_some_iff.1 hl3).1, (World.putObj_heap_other (by omega)).trans (hk3.heap hdb (.inl rfl))⟩
   rintro e2 a3 W3 hp
   cases e2 with
   | normal =>
    obtain ⟨hk3, hi3⟩ := hp
    obtain ⟨hr, hl4, hd4⟩ := fin none W3 (hk3.mono fun k hk => hk.elim .inl (fun h => .inr (.inl h)))
    refine ⟨_, _, hr, .inl ⟨rfl, ⟨hI _ _ _ hi3 (hP _ _), hl4, hd4⟩, ?_⟩⟩
    have hlk : ∀ k, keep k → k ≠ w.heap.size + 1 := fun k hk e => by have := hkeep k hk; omega
    exact (hka.mono fun k hk => .inr (.inr hk)).trans ((hkb.mono hlk).trans ((hk3.mono fun k hk => .inr (.inr hk)).trans (Keeps.putObj _ _ _ (fun h => hlk _ h rfl))))
   | ret =>
    obtain ⟨hk3, hi3⟩ := hp
    obtain ⟨hr, hl4, hd4⟩ := fin (some .ret) W3 hk3
    exact ⟨_, _, hr, .inr ⟨rfl, .ret, hIx _ _ _ _ hi3 (hP _ _), hl4, hd4⟩⟩
   | exit id =>
    obtain ⟨hk3, hi3⟩ := hp
    obtain ⟨hr, hl4, hd4⟩ := fin (some (.exit id)) W3 hk3
    exact ⟨_, _, hr, .inr ⟨rfl, .exit id, hIx _ _ _ _ hi3 (hP _ _), hl4, hd4⟩⟩
   | goto t =>
    obtain ⟨hk3, hi3⟩ := hp
    obtain ⟨hr, hl4, hd4⟩ := fin (some (.goto t)) W3 hk3
    exact ⟨_, _, hr, .inr ⟨rfl, .goto t, hIx _ _ _ _ hi3 (hP _ _), hl4, hd4⟩⟩
   | panic ch => exact hp.elim
   | outgrown => exact hp.elim
  | exit id => exact hpost.elim
  | goto t => exact hpost.elim
  | ret => exact hpost.elim
  | panic ch => exact hpost.elim
  | outgrown => exact hpost.elim
 ·rintro e W2 ⟨⟨v, rfl⟩, (⟨hi, hl, hd⟩ | ⟨i, hlt, c, hi, hl, hd⟩)⟩
  ·exact ⟨none, _, by have := run_endLoop (P := P) hl (by rw [hrec]; simp); rw [hrec] at this; exact this, hdone _ (hI _ _ _ hi (hP _ _)) ((World.putObj_heap_other (by omega)).trans hd)⟩
  ·exact ⟨some c, _, by have := run_endLoop (P := P) hl (by rw [hrec]; simp); rw [hrec] at this; exact this, hstop c i _ hlt (hIx c _ _ _ hi (hP _ _)) ((World.putObj_heap_other (by omega)).trans hd)⟩

/-- The like, where what is handed over is told by a relation: it hands the elements of xs to yield, one after the other, as long as yield says yes; between the calls it turns none of the blocks that lay there but its own (mine); it needs the blocks 'keep' as they were. -/
def IterR {α : Type} (P : Program) (g : Nat) (lb : Array Value) (enc : α → Array Value → World → Prop) (mine keep : Nat → Prop) (T : Nat) (xs : List α) (w0 : World) : Prop :=
 ∀ (l : Nat) (J Jx : Nat → World → Prop) (W : World), Below w0.heap.size w0 W → T ≤ W.heap.size →
  (∀ i A B, J i A → Keeps (fun k => ¬ mine k) A B → J i B) → (∀ i A B, Jx i A → Keeps (fun k => ¬ mine k) A B → Jx i B) →
  (∀ (i : Nat) (x : α) args W1, xs[i]? = some x → enc x args W1 → J i W1 → YieldAt Fence.wide 0 P l args W1 fun e W' =>
   (e = .returned (.bool true) ∧ J (i + 1) W' ∧ Keeps keep W1 W') ∨ (e = .returned (.bool false) ∧ Jx i W')) →
  J 0 W →
  CallsIn Fence.wide 0 P g (#[.func (.yield l) #[] #[]] ++ lb) W fun e W' => (∃ v, e = .returned v) ∧ (J xs.length W' ∨ ∃ i, i < xs.length ∧ Jx i W')

/-- THE LAW, where what is handed over is told by a relation (rows made on the way). I: between two rounds (so many are over). Ix: a round was left by a jump. A: behind the assignment to the loop's variables. -/
theorem range_rel {α : Type} {g : Operand} {ps : Array Tmp} {assign body : Code} {Q : Exit → Act → World → Prop} {a : Act} {w : World}
  {gf : Nat} {lb : Array Value} (hg : a.eval g = .func (.func gf) #[] lb) (eg : ∀ args w, (callFunc gf args).run P w = .ok (.enter gf args) w)
  {enc : α → Array Value → World → Prop} {mine keep : Nat → Prop} {xs : List α} {w0 : World} {T : Nat} (hit : IterR P gf lb enc mine keep T xs w0) (hT : T ≤ w.heap.size + 2) (hb0 : Below w0.heap.size w0 w) (hps : ∀ x args W, enc x args W → args.size = ps.size)
  (hm : ∀ k, mine k → k < w.heap.size) (hkeep : ∀ k, keep k → k ≠ w.heap.size + 1)
  (I : Nat → World → Prop) (Ix : Code → Nat → World → Prop)
  (hI : ∀ i A B, I i A → Keeps (fun k => ¬ mine k ∧ k ≠ w.heap.size ∧ k ≠ w.heap.size + 1) A B → I i B)
  (hIx : ∀ c i A B, Ix c i A → Keeps (fun k => ¬ mine k ∧ k ≠ w.heap.size ∧ k ≠ w.heap.size + 1) A B → Ix c i B)
  (h0 : I 0 w) (As : Nat → α → Act → World → Prop) (hAs : ∀ i x a' A B, As i x a' A → Keeps (fun k => k ≠ w.heap.size + 1) A B → As i x a' B)
  (hassign : ∀ (i : Nat) (x : α) (args : Array Value) (W : World), xs[i]? = some x → enc x args W → w.heap.size + 1 < W.heap.size → I i W →
   assign.wpIn (Fence.wide.inRound (w.heap.size + 1)) 0 P (Exit.then (fun a' W' => Keeps (fun k => k = w.heap.size ∨ k = w.heap.size + 1 ∨ keep k) W W' ∧ As i x a' W') (fun _ _ _ => False)) { tmps := (ps.zip args).foldl (fun t (p, v) => t.setIfInBounds p v) a.tmps, defers := [] } W)
  (hbody : ∀ (i : Nat) (x : α) (a' : Act) (W : World), xs[i]? = some x → w.heap.size + 1 < W.heap.size → As i x a' W → body.wpIn (Fence.wide.inRound (w.heap.size + 1)) 0 P (LeftAs w.heap.size keep I Ix i W) a' W)
  (hdone : ∀ W : World, I xs.length W → W.heap[w.heap.size]? = some (.deferred (some [])) → Q .normal { a with defers := { target := .collected w.heap.size, args := #[] } :: a.defers } W)
  (hstop : ∀ (c : Code) (i : Nat) (W : World), i < xs.length → Ix c i W → W.heap[w.heap.size]? = some (.deferred (some [])) → c.wpIn Fence.wide 0 P Q { a with defers := { target := .collected w.heap.size, args := #[] } :: a.defers } W) :
  (Code.rangeFunc g ps assign body).wpIn Fence.wide 0 P Q a w := by
 refine wpIn_rangeFunc fun fn _ => ?_
 obtain ⟨rec, hrec⟩ : ∃ rec : LoopState → Option Code → Loop, rec = fun st pe => { state := st, pending := pe, fn, tmps := a.tmps, params := ps, assign, body, defers := w.heap.size } := ⟨_, rfl⟩
 obtain ⟨W1, hW1⟩ : ∃ W1, (w.alloc (.deferred (some []))).alloc (.loop (rec .ready none)) = W1 := ⟨_, rfl⟩
 have hk1 : Below w.heap.size w W1 := by rw [← hW1]; exact below_alloc (below_alloc (Below.refl _ _) _) _
 have hL1 : W1.heap[w.heap.size + 1]? = some (.loop (rec .ready none)) := by
  rw [← hW1]; have := World.alloc_heap_new (w.alloc (.deferred (some []))) (.loop (rec .ready none)); rwa [World.size_alloc] at this
 have hD1 : W1.heap[w.heap.size]? = some (.deferred (some [])) := by
  rw [← hW1]; exact (Below.heap_alloc _ _ _ (by simp)).trans (World.alloc_heap_new w _)
 refine ⟨w.heap.size + 1, [{ target := .collected w.heap.size, args := #[] }], W1, { target := .fn (.func gf) lb, args := #[.func (.yield (w.heap.size + 1)) #[] #[]] }, W1, gf,
  #[.func (.yield (w.heap.size + 1)) #[] #[]] ++ lb, W1, ?_, ?_, fun _ _ => trivial, ?_, fun h => by simp [Fence.wide] at h, ?_⟩
 ·rw [← hW1, hrec]; exact run_enterLoop_outer _ _ _ _ _
 ·simp only [resolve, hg]
  simp [go_sem]
 ·simp [invoke, go_sem, eg]
 have hS : ∀ {A B : World}, Keeps (fun k => ¬ mine k) A B → Keeps (fun k => ¬ mine k ∧ k ≠ w.heap.size ∧ k ≠ w.heap.size + 1) A B := fun h => h.mono fun _ hk => hk.1
 have hnD : ¬ mine w.heap.size := fun h => by have := hm _ h; omega
 have hnL : ¬ mine (w.heap.size + 1) := fun h => by have := hm _ h; omega
 have hP : ∀ (A : World) (o : Obj), Keeps (fun k => ¬ mine k ∧ k ≠ w.heap.size ∧ k ≠ w.heap.size + 1) A (A.putObj (w.heap.size + 1) o) := fun A o => Keeps.putObj A _ o (fun h => h.2.2 rfl)
 refine (hit (w.heap.size + 1)
  (fun i W => I i W ∧ W.heap[w.heap.size + 1]? = some (.loop (rec .ready none)) ∧ W.heap[w.heap.size]? = some (.deferred (some [])))
  (fun i W => ∃ c, Ix c i W ∧ W.heap[w.heap.size + 1]? = some (.loop (rec .done (some c))) ∧ W.heap[w.heap.size]? = some (.deferred (some [])))
  W1 (hb0.trans (hk1.mono hb0.size)) (by rw [← hW1]; simpa [World.size_alloc] using hT)
  (fun i A B hs hk => ⟨hI i A B hs.1 (hS hk), hk.heap hs.2.1 hnL, hk.heap hs.2.2 hnD⟩)
  (fun i A B hs hk => by obtain ⟨c, hc, hl, hd⟩ := hs; exact ⟨c, hIx c i A B hc (hS hk), hk.heap hl hnL, hk.heap hd hnD⟩)
  ?_ ⟨hI 0 w W1 h0 (.of_below hk1), hL1, hD1⟩).mono ?_
 ·rintro i x args W hx henc ⟨hi, hl, hd⟩
  have hlt : w.heap.size + 1 < W.heap.size := (Array.getElem?_eq_some_iff.1 hl).1
  have hy := run_yield (P := P) (args := args) hl (by rw [hrec]; exact hps x args W henc)
  rw [hrec] at hy
  refine ⟨fn, _, assign, body, hy, roundIn_of_wpIn trivial ?_⟩
  refine wpIn_mono (hassign i x args W hx henc hlt hi) ?_
  rintro e a' Wa hpost
  cases e with
  | normal =>
   obtain ⟨hka, ha⟩ := hpost
   have hla := hka.heap hl (.inr (.inl rfl))
   have hda := hka.heap hd (.inl rfl)
   have hlta : w.heap.size + 1 < Wa.heap.size := Nat.lt_of_lt_of_le hlt hka.size
   refine ⟨_, run_beginRound hla (by rw [hrec]), ?_⟩
   obtain ⟨Wb, hWb⟩ : ∃ Wb, Wa.putObj (w.heap.size + 1) (.loop { rec .ready none with state := .busy }) = Wb := ⟨_, rfl⟩
   rw [hWb]
   have hkb : Keeps (fun k => k ≠ w.heap.size + 1) Wa Wb := by rw [← hWb]; exact Keeps.putObj _ _ _ (fun h => h rfl)
   have hlb : Wb.heap[w.heap.size + 1]? = some (.loop { rec .ready none with state := .busy }) := by rw [← hWb]; exact World.putObj_heap_same hlta
   have hdb : Wb.heap[w.heap.size]? = some (.deferred (some [])) := hkb.heap hda (by omega)
   refine wpIn_mono (hbody i x a' Wb hx (Nat.lt_of_lt_of_le hlta hkb.size) (hAs i x a' Wa Wb ha hkb)) ?_
   have fin : ∀ (jump : Option Code) (W3 : World), Keeps (fun k => k = w.heap.size ∨ k = w.heap.size + 1) Wb W3 →
     (Instr.endRound (w.heap.size + 1) jump).run P W3 = .ok (.bool jump.isNone) (W3.putObj (w.heap.size + 1) (.loop (rec (if jump.isNone then .ready else .done) jump))) ∧
     (W3.putObj (w.heap.size + 1) (.loop (rec (if jump.isNone then .ready else .done) jump))).heap[w.heap.size + 1]? = some (.loop (rec (if jump.isNone then .ready else .done) jump)) ∧
     (W3.putObj (w.heap.size + 1) (.loop (rec (if jump.isNone then .ready else .done) jump))).heap[w.heap.size]? = some (.deferred (some [])) := fun jump W3 hk3 => by
    have hl3 := hk3.heap hlb (.inr rfl)
    have := run_endRound (P := P) jump hl3
    rw [hrec] at this ⊢
    exact ⟨this, World.putObj_heap_same (Array.getElem?_eq_some_iff.1 hl3).1, (World.putObj_heap_other (by omega)).trans (hk3.heap hdb (.inl rfl))⟩
   rintro e2 a3 W3 hp
   cases e2 with
   | normal =>
    obtain ⟨hk3, hi3⟩ := hp
    obtain ⟨hr, hl4, hd4⟩ := fin none W3 (hk3.mono fun k hk => hk.elim .inl (fun h => .inr (.inl h)))
    refine ⟨_, _, hr, .inl ⟨rfl, ⟨hI _ _ _ hi3 (hP _ _), hl4, hd4⟩, ?_⟩⟩
    have hlk : ∀ k, keep k → k ≠ w.heap.size + 1 := hkeep
    exact (hka.mono fun k hk => .inr (.inr hk)).trans ((hkb.mono hlk).trans ((hk3.mono fun k hk => .inr (.inr hk)).trans (Keeps.putObj _ _ _ (fun h => hlk _ h rfl))))
   | ret =>
    obtain ⟨hk3, hi3⟩ := hp
    obtain ⟨hr, hl4, hd4⟩ := fin (some .ret) W3 hk3
    exact ⟨_, _, hr, .inr ⟨rfl, .ret, hIx _ _ _ _ hi3 (hP _ _), hl4, hd4⟩⟩
   | exit id =>
    obtain ⟨hk3, hi3⟩ := hp
    obtain ⟨hr, hl4, hd4⟩ := fin (some (.exit id)) W3 hk3
    exact ⟨_, _, hr, .inr ⟨rfl, .exit id, hIx _ _ _ _ hi3 (hP _ _), hl4, hd4⟩⟩
   | goto t =>
    obtain ⟨hk3, hi3⟩ := hp
    obtain ⟨hr, hl4, hd4⟩ := fin (some (.goto t)) W3 hk3
    exact ⟨_, _, hr, .inr ⟨rfl, .goto t, hIx _ _ _ _ hi3 (hP _ _), hl4, hd4⟩⟩
   | panic ch => exact hp.elim
   | outgrown => exact hp.elim
  | exit id => exact hpost.elim
  | goto t => exact hpost.elim
  | ret => exact hpost.elim
  | panic ch => exact hpost.elim
  | outgrown => exact hpost.elim
 ·rintro e W2 ⟨⟨v, rfl⟩, (⟨hi, hl, hd⟩ | ⟨i, hlt, c, hi, hl, hd⟩)⟩
  ·exact ⟨none, _, by have := run_endLoop (P := P) hl (by rw [hrec]; simp); rw [hrec] at this; exact this, hdone _ (hI _ _ _ hi (hP _ _)) ((World.putObj_heap_other (by omega)).trans hd)⟩
  ·exact ⟨some c, _, by have := run_endLoop (P := P) hl (by rw [hrec]; simp); rw [hrec] at this; exact this, hstop c i _ hlt (hIx c _ _ _ hi (hP _ _)) ((World.putObj_heap_other (by omega)).trans hd)⟩


/-- range_law with the round in one piece: behind the assignment the body goes on in whatever world keeps all but the loop's record. -/
theorem range_round {α : Type} {g : Operand} {ps : Array Tmp} {assign body : Code} {Q : Exit → Act → World → Prop} {a : Act} {w : World}
  {gf : Nat} {lb : Array Value} (hg : a.eval g = .func (.func gf) #[] lb) (eg : ∀ args w, (callFunc gf args).run P w = .ok (.enter gf args) w)
  {encs : α → Array Value} {mine keep : Nat → Prop} {xs : List α} {w0 : World} (hit : Iter P gf lb encs mine keep xs w0) (hb0 : Below w0.heap.size w0 w) (hps : ∀ x, (encs x).size = ps.size)
  (hm : ∀ k, mine k → k < w.heap.size) (hkeep : ∀ k, keep k → k < w.heap.size)
  (I : Nat → World → Prop) (Ix : Code → Nat → World → Prop)
  (hI : ∀ i A B, I i A → Keeps (fun k => ¬ mine k ∧ k ≠ w.heap.size ∧ k ≠ w.heap.size + 1) A B → I i B)
  (hIx : ∀ c i A B, Ix c i A → Keeps (fun k => ¬ mine k ∧ k ≠ w.heap.size ∧ k ≠ w.heap.size + 1) A B → Ix c i B)
  (h0 : I 0 w)
  (hround : ∀ (i : Nat) (x : α) (W : World), xs[i]? = some x → w.heap.size + 1 < W.heap.size → I i W →
   assign.wpIn (Fence.wide.inRound (w.heap.size + 1)) 0 P (Exit.then (fun a' W' => Keeps (fun k => k = w.heap.size ∨ k = w.heap.size + 1 ∨ keep k) W W' ∧ ∀ Wb, Keeps (fun k => k ≠ w.heap.size + 1) W' Wb → w.heap.size + 1 < Wb.heap.size → body.wpIn (Fence.wide.inRound (w.heap.size + 1)) 0 P (LeftAs w.heap.size keep I Ix i Wb) a' Wb) (fun _ _ _ => False)) { tmps := (ps.zip (encs x)).foldl (fun t (p, v) => t.setIfInBounds p v) a.tmps, defers := [] } W)
  (hdone : ∀ W : World, I xs.length W → W.heap[w.heap.size]? = some (.deferred (some [])) → Q .normal { a with defers := { target := .collected w.heap.size, args := #[] } :: a.defers } W)
  (hstop : ∀ (c : Code) (i : Nat) (W : World), i < xs.length → Ix c i W → W.heap[w.heap.size]? = some (.deferred (some [])) → c.wpIn Fence.wide 0 P Q { a with defers := { target := .collected w.heap.size, args := #[] } :: a.defers } W) :
  (Code.rangeFunc g ps assign body).wpIn Fence.wide 0 P Q a w :=
 range_law hg eg hit hb0 hps hm hkeep I Ix hI hIx h0
  (fun i _ a' W' => ∀ Wb, Keeps (fun k => k ≠ w.heap.size + 1) W' Wb → w.heap.size + 1 < Wb.heap.size → body.wpIn (Fence.wide.inRound (w.heap.size + 1)) 0 P (LeftAs w.heap.size keep I Ix i Wb) a' Wb)
  (fun _ _ _ _ _ h hk Wb hb hl => h Wb (hk.trans hb) hl)
  hround
  (fun _ _ _ W _ hl h => h W (Keeps.refl _ _) hl) hdone hstop

theorem range_relround {α : Type} {g : Operand} {ps : Array Tmp} {assign body : Code} {Q : Exit → Act → World → Prop} {a : Act} {w : World}
  {gf : Nat} {lb : Array Value} (hg : a.eval g = .func (.func gf) #[] lb) (eg : ∀ args w, (callFunc gf args).run P w = .ok (.enter gf args) w)
  {enc : α → Array Value → World → Prop} {mine keep : Nat → Prop} {xs : List α} {w0 : World} {T : Nat} (hit : IterR P gf lb enc mine keep T xs w0) (hT : T ≤ w.heap.size + 2) (hb0 : Below w0.heap.size w0 w) (hps : ∀ x args W, enc x args W → args.size = ps.size)
  (hm : ∀ k, mine k → k < w.heap.size) (hkeep : ∀ k, keep k → k ≠ w.heap.size + 1)
  (I : Nat → World → Prop) (Ix : Code → Nat → World → Prop)
  (hI : ∀ i A B, I i A → Keeps (fun k => ¬ mine k ∧ k ≠ w.heap.size ∧ k ≠ w.heap.size + 1) A B → I i B)
  (hIx : ∀ c i A B, Ix c i A → Keeps (fun k => ¬ mine k ∧ k ≠ w.heap.size ∧ k ≠ w.heap.size + 1) A B → Ix c i B)
  (h0 : I 0 w)
  (hround : ∀ (i : Nat) (x : α) (args : Array Value) (W : World), xs[i]? = some x → enc x args W → w.heap.size + 1 < W.heap.size → I i W →
   assign.wpIn (Fence.wide.inRound (w.heap.size + 1)) 0 P (Exit.then (fun a' W' => Keeps (fun k => k = w.heap.size ∨ k = w.heap.size + 1 ∨ keep k) W W' ∧ ∀ Wb, Keeps (fun k => k ≠ w.heap.size + 1) W' Wb → w.heap.size + 1 < Wb.heap.size → body.wpIn (Fence.wide.inRound (w.heap.size + 1)) 0 P (LeftAs w.heap.size keep I Ix i Wb) a' Wb) (fun _ _ _ => False)) { tmps := (ps.zip args).foldl (fun t (p, v) => t.setIfInBounds p v) a.tmps, defers := [] } W)
  (hdone : ∀ W : World, I xs.length W → W.heap[w.heap.size]? = some (.deferred (some [])) → Q .normal { a with defers := { target := .collected w.heap.size, args := #[] } :: a.defers } W)
  (hstop : ∀ (c : Code) (i : Nat) (W : World), i < xs.length → Ix c i W → W.heap[w.heap.size]? = some (.deferred (some [])) → c.wpIn Fence.wide 0 P Q { a with defers := { target := .collected w.heap.size, args := #[] } :: a.defers } W) :
  (Code.rangeFunc g ps assign body).wpIn Fence.wide 0 P Q a w :=
 range_rel hg eg hit hT hb0 hps hm hkeep I Ix hI hIx h0
  (fun i _ a' W' => ∀ Wb, Keeps (fun k => k ≠ w.heap.size + 1) W' Wb → w.heap.size + 1 < Wb.heap.size → body.wpIn (Fence.wide.inRound (w.heap.size + 1)) 0 P (LeftAs w.heap.size keep I Ix i Wb) a' Wb)
  (fun _ _ _ _ _ h hk Wb hb hl => h Wb (hk.trans hb) hl)
  hround
  (fun _ _ _ W _ hl h => h W (Keeps.refl _ _) hl) hdone hstop
/-- append(v, x) of one element, in a round; the goal's world is 'W.alloc' of the variadic's box. -/
theorem R_append_in {F : Fence} {n : Nat} {α : Type} {ops : Array Oper} {rest : List Oper} {o : Oper} {a : Act} {Q : Exit → Act → World → Prop} (d : Kd α) {W : World} (base : Nat) (hgd : o.guard = none) (s x : Operand) (t e : TypeId) (z : Value) (bytes : Nat)
  (ho : o.op = .call { callee := .builtin .append, args := #[s, x], argTypes := #[t, t] })
  (ht : P.underlying t = some (.slice e)) (hinfo : (P.info? e).map (fun i => (i.zero, i.size, i.bytes)) = some (some z, d.sz, bytes)) (hz : z.cells.size = d.sz) (hs0 : 0 < d.sz) (hb0 : 0 < bytes)
  (v : Value) (xs : List α) (p : α) (cs : List Value) (ok okp : Nat → Prop) (hs : a.eval s = v) (hx : a.eval x = .slice (some ⟨W.heap.size, 0, none⟩) 1 1) (hp : d.M W base okp p cs) (hokp : ∀ k, okp k → ok k ∧ some k ≠ v.ownBlock) (hfresh : ∀ k, W.heap.size ≤ k → ok k)
  (HO : d.R e W base ok v xs) (hbase : base ≤ W.heap.size) (hl : (xs.length + 1) * bytes ≤ 140737488355328)
  (h : ∀ v1 w1, d.R e w1 base ok v1 (xs ++ [p]) → W.grownBy w1 v.ownBlock → (v1.ownBlock = v.ownBlock ∨ ∃ b, v1.ownBlock = some b ∧ W.heap.size ≤ b) → wpListIn F n P ops Q rest (a.put o.dst v1) w1) :
  wpListIn F n P ops Q (o :: rest) a (W.alloc (.cells cs.toArray e)) := by
 obtain ⟨h0, inner, hown, hr⟩ := HO
 obtain ⟨i0, hi, hzz⟩ := Option.map_eq_some_iff.1 hinfo
 simp only [Prod.mk.injEq] at hzz
 obtain ⟨hz0, hz1, hz2⟩ := hzz
 have hlen : xs.length + 1 ≤ 140737488355328 := Nat.le_trans (Nat.le_mul_of_pos_right _ hb0) hl
 refine wpListIn_plain hgd fun K hK' => ?_
 obtain ⟨v1, w1, hrun, hown1, hg1, _, hat1⟩ := run_append_own_at (P := P) (W.alloc (.cells cs.toArray e)) base t o.type e i0 z d.sz bytes ht hi hz0 hz1 hz2 hz hs0 v xs.length inner (hown.alloc _) ⟨W.heap.size, 0, none⟩ 1 1 cs
  (by rw [d.K_len (d.K_of_M hp)]; simp) (by simpa using World.news_of_block (cs := cs.toArray) (t := e) (fr := (0, 0)) (heap_alloc_new W (.cells cs.toArray e))) (d.K_one (d.K_of_M hp)) (by simp only [maxLen]; omega) hl (by simp; omega)
 have hg2 : W.grownBy w1 v.ownBlock := World.grownBy.trans (World.grownBy_alloc W _ _) hg1
 have hat2 : v1.ownBlock = v.ownBlock ∨ ∃ b, v1.ownBlock = some b ∧ W.heap.size ≤ b := by
  rcases hat1 with hat | hat
  ·exact .inl hat
  ·exact .inr ⟨_, hat, by simp⟩
 unfold Oper.wpIn
 refine ⟨?_, ?_⟩
 ·simp [Oper.about, ho, resolve, Target.leads, Sem.run_pure]
 ·rw [Oper.semAt_plain F _ _ (by rw [ho]; intro c hc'; cases hc')]
  simp [execOp, ho, resolve, invoke, builtin, hs, hx, hrun, Result.andThen]
  exact hK' _ _ (h v1 w1 (Kd.R_appended h0 hr hp hokp hfresh hown1 hg2 hat2) hg2 hat2)
theorem goes_in {f : FuncId} {fn : Func} {c : Code} (hf : P.funcs[f]? = some fn) (hname : (fn.name == "runtime.NumGoroutine") = false) (hb : fn.body = some c) : ∀ args w, (callFunc f args).run P w = .ok (.enter f args) w := by
 intro args w
 have h1 : fn.name ≠ "runtime.NumGoroutine" := by simpa using hname
 simp [callFunc, hf, h1, hb, mark]
theorem _root_.Go.Boxed.new_at {B : Nat} (W : World) (t : TypeId) (v : Value) (h : W.heap.size = B) : Boxed (W.alloc (.cells #[v] t)) B t v := by rw [← h]; exact Boxed.new W t v
theorem _root_.Go.Boxed.put {W : World} {B : Nat} {t : TypeId} {v : Value} (h : Boxed W B t v) (u : Value) : Boxed (W.setCell ⟨B, 0, none⟩ u) B t u := by
 have := blk_set h 0 u
 simpa [Boxed] using this
theorem Keeps.boxed {Z : Nat → Prop} {A B : World} (h : Keeps Z A B) {b : Nat} {t : TypeId} {v : Value} (ha : Boxed A b t v) (hz : Z b) : Boxed B b t v := h.heap ha hz
theorem _root_.Go.Boxed.away {W : World} {B : Nat} {t : TypeId} {v : Value} (h : Boxed W B t v) {p : Addr} (hne : B ≠ p.block) (u : Value) : Boxed (W.setCell p u) B t v := (Below.heap_setCell W p u B hne).trans h
theorem Keeps.weaken {Z Z' : Nat → Prop} {A B : World} (h : Keeps Z A B) (hz : ∀ k, Z' k → k < A.heap.size → Z k) : Keeps Z' A B := ⟨h.os, h.tape, h.output, h.size, fun k hk hl => h.block k (hz k hk hl) hl⟩
theorem Keeps.drawn {Z : Nat → Prop} {A B C : World} (h : Keeps Z A B) (hd : Drawn0 B C) : Keeps Z A C := by
 obtain ⟨m, rfl⟩ := hd
 exact h.drewN m
theorem below_of_drawn {W W' : World} (hd : Drawn0 W W') : Below W.heap.size W W' := by
 obtain ⟨m, rfl⟩ := hd
 exact pw_below_drewN (Below.refl _ _) m
theorem _root_.Go.Boxed.drawn {W W' : World} {B : Nat} {t : TypeId} {v : Value} (h : Boxed W B t v) (hd : Drawn0 W W') : Boxed W' B t v := ((below_of_drawn hd).block _ h.lt).trans h
theorem _root_.Go.Boxed.later {W W' : World} {B : Nat} {t : TypeId} {v : Value} (h : Boxed W B t v) (hb : Below W.heap.size W W') : Boxed W' B t v := (hb.block _ h.lt).trans h
theorem name_world {F : Fence} {n : Nat} {c : Code} {Q : Exit → Act → World → Prop} {a : Act} {W : World} (h : ∀ W', W' = W → c.wpIn F n P Q a W') : c.wpIn F n P Q a W := h W rfl
theorem name_world0 {c : Code} {Q : Exit → Act → World → Prop} {a : Act} {W : World} (h : ∀ W', W' = W → c.wp P Q a W') : c.wp P Q a W := h W rfl

/-! ### A region that draws its order and only reads, in a round of a range over a function -/
def noDefers (l : List Oper) : Bool := l.all fun o => match o.op with
 | .defer _ => false
 | _ => true
theorem Oper.wpIn_round {F : Fence} {n : Nat} {o : Oper} {a : Act} {w : World} {K : Act → World → Prop} {Q : Exit → Act → World → Prop} (l : Nat) (hd : ∀ c, o.op ≠ .defer c) (h : o.wpIn F n P a w K Q) : o.wpIn (F.inRound l) n P a w K Q := by
 unfold Oper.wpIn at *
 refine ⟨h.1, ?_⟩
 have hh := h.2
 rw [Oper.semAt_plain F _ _ hd] at hh
 rw [Oper.semAt_plain (F.inRound l) _ _ hd]
 generalize (execOp a.eval o).run P w = r at *
 cases r with
 | ok x w' => cases x <;> simp only [Oper.uponIn] at hh ⊢ <;> exact hh
 | halt x w' => cases x <;> simp only [Oper.uponIn] at hh ⊢ <;> exact hh
theorem noDefers_spec {ops : Array Oper} (h : noDefers ops.toList = true) {i : Nat} {o : Oper} (hi : ops[i]? = some o) : ∀ c, o.op ≠ .defer c := by
 intro c hc
 have hm : o ∈ ops.toList := by
  have := Array.getElem?_toList (xs := ops) (i := i)
  rw [hi] at this
  exact List.mem_of_getElem? this
 have := List.all_eq_true.1 h o hm
 rw [hc] at this
 cases this
theorem wpAnyIn_round {F : Fence} {n : Nat} {md : Region.Mode} {ops : Array Oper} {Q : Exit → Act → World → Prop} (l : Nat) (hd : noDefers ops.toList = true) :
  ∀ (fuel : Nat) (listed : Array Bool) (a : Act) (w : World), wpAnyIn F n P md ops Q fuel listed a w → wpAnyIn (F.inRound l) n P md ops Q fuel listed a w
 | 0, _, _, _, h => h
 | fuel + 1, _, a0, _, h => by
  refine ⟨h.1, fun i hi => ?_⟩
  have h2 := wpOpIn_mono (fun a w => wpAnyIn_round l hd fuel _ a w) (h.2 i hi)
  unfold wpOpIn at h2 ⊢
  cases ho : ops[i]? with
  | none => simpa only [ho] using h2
  | some o =>
   simp only [ho] at h2 ⊢
   by_cases hw : Region.wanted o (yielded ops a0.tmps) = true
   ·rw [if_pos hw] at h2 ⊢
    exact Oper.wpIn_round l (noDefers_spec hd ho) h2
   ·rw [if_neg hw] at h2 ⊢
    exact h2
theorem wpIn_round_quiet {n id l : Nat} {Q : Exit → Act → World → Prop} {a : Act} {w : World} {L : List Oper} (hm : P.follows .mixedOrders = true) (hB : Region.lexB .any L.toArray = true) (hd : noDefers L = true)
  (h : wpQuietIn Fence.wide n P L.toArray (fun w' => ∃ n, w' = w.drewN n) (fun a' => ∀ w', (∃ n, w' = w.drewN n) → Q .normal a' w') L a) : (Code.region id L.toArray true).wpIn (Fence.wide.inRound l) n P Q a w := by
 simp only [Region.lexB, Bool.and_eq_true] at hB
 refine wpIn_region_any hm (wpAnyIn_round l (by simpa using hd) _ _ _ _ (wpAnyIn_of_quiet (C := fun w' => ∃ n, w' = w.drewN n) (Q := fun a' => ∀ w', (∃ n, w' = w.drewN n) → Q .normal a' w') rfl (fun _ w' hw' h => h w' hw') _ _ _ _ ⟨1, rfl⟩ ?_))
 have := wpAnyQIn_lex (F := Fence.wide) (n := n) (C := fun w' => ∃ n, w' = w.drewN n) (md := .any) hB.1 L.toArray.toList 0 (Array.replicate L.toArray.size false) a (by simp) (by simpa using hB.2) (by simpa using h)
 simpa using this
end Go.Proofs.YtlhhcjlcaacfpaaR
