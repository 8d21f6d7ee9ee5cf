-- PRINTED by print.py (a twelfth state) out of the translation. Not trusted: Lean checks it.
import Derived.Test.YtlhhcjlcaacfpaaPx0
import Derived.Test.YtlhhcjlcaacfpaaQB
import Derived.Test.YtlhhcjlcaacfpaaPx33
namespace Go.Proofs.Ytlhhcjlcaacfpaa.P
open Go.RowKit Go.Proofs.YtlhhcjlcaacfpaaW.PrintWords Go.Proofs.YtlhhcjlcaacfpaaW.PrintLast Go.Proofs.YtlhhcjlcaacfpaaW.PrintMore Go.Proofs.YtlhhcjlcaacfpaaH Go.Proofs.YtlhhcjlcaacfpaaR Go.Proofs.YtlhhcjlcaacfpaaM
attribute [local go_sem] max2_int min2_int max_two min_two max_three min_three max_four min_four   -- for this text's walks alone
set_option linter.unusedVariables false
set_option linter.unusedSimpArgs false

/-! ### route_Valid: function 18 -/
def leastOK (h : List Int) (c : Int) (v : Int) : Bool := (List.range h.length).all fun u => decide (u = 0) || rd h u == rd h (u - 1) || !(rd h u == c || rd h (u - 1) == c) || decide ((u : Int) ≤ v)
def okKnown (h k : List Int) (lag : Int) (c : Nat) : Bool := rd k c == -1 || (decide (0 ≤ rd k c) && decide ((h.length : Int) - 1 - lag ≤ rd k c) && leastOK h c (rd k c) && decide (rd k c < h.length))
def validB (h k : List Int) (lag : Int) : Bool :=
 holdersB h && decide (k.length = 8) && inB lag 0 10 &&
  (List.range 8).all fun c => okKnown h k lag c
def route_Valid.f (l0 l1 : List Int) (a2 : Int) : Option Bool := some (validB l0 l1 a2)
def LP (h : List Int) (m0 : Int) (v j : Nat) (ls : List Int) : Prop := ls.length = 8 ∧ ∀ c : Nat, c < 8 → ∀ x : Int, rd ls c ≤ x ↔ (m0 ≤ x ∧ (∀ u : Nat, 1 ≤ u → u < v → rd h u ≠ rd h ((u : Int) - 1) → (rd h u = c ∨ rd h ((u : Int) - 1) = c) → (u : Int) ≤ x) ∧ (rd h v ≠ rd h ((v : Int) - 1) → ∀ j' : Nat, j' < j → rd h ((v : Int) - 1 + j') = c → (v : Int) ≤ x))
theorem rd_replicate (n : Nat) (m : Int) (c : Nat) (hc : c < n) : rd (List.replicate n m) c = m := by simp [rd, hc]
theorem LP.start (h : List Int) (m0 : Int) : LP h m0 1 0 (List.replicate 8 m0) := by
 refine ⟨by simp, fun c hc x => ?_⟩
 rw [rd_replicate 8 m0 c hc]
 exact ⟨fun hx => ⟨hx, fun u h1 h2 => by omega, fun _ j' hj => by omega⟩, fun hx => hx.1⟩
theorem LP.skip {h : List Int} {m0 : Int} {v j : Nat} {ls : List Int} (H : LP h m0 v j ls) (hs : rd h v = rd h ((v : Int) - 1) ∨ rd h ((v : Int) - 1 + j) < 0) : LP h m0 v (j + 1) ls := by
 refine ⟨H.1, fun c hc x => ?_⟩
 rw [H.2 c hc x]
 constructor
 ·rintro ⟨a, b, d⟩
  refine ⟨a, b, fun hne j' hj' he => ?_⟩
  rcases Nat.lt_succ_iff_lt_or_eq.mp hj' with hl | rfl
  ·exact d hne j' hl he
  ·rcases hs with hs | hs
   ·exact absurd hs hne
   ·omega
 ·rintro ⟨a, b, d⟩
  exact ⟨a, b, fun hne j' hj' he => d hne j' (by omega) he⟩
theorem rd_set (ls : List Int) (i c : Nat) (y : Int) (hi : i < ls.length) : rd (ls.set i y) c = if i = c then y else rd ls c := by
 unfold rd
 simp only [Int.toNat_natCast, List.getD_eq_getElem?_getD, List.getElem?_set]
 split
 ·subst_vars; simp [hi]
 ·rfl
theorem LP.put {h : List Int} {m0 : Int} {v j : Nat} {ls : List Int} (H : LP h m0 v j ls) (hne : rd h v ≠ rd h ((v : Int) - 1)) (d : Nat) (hd : d < 8) (he : rd h ((v : Int) - 1 + j) = d) :
  LP h m0 v (j + 1) (ls.set d (if rd ls d < v then (v : Int) else rd ls d)) := by
 refine ⟨by simp [H.1], fun c hc x => ?_⟩
 rw [rd_set _ _ _ _ (by rw [H.1]; exact hd)]
 have hH := H.2 c hc x
 by_cases hdc : d = c
 ·subst hdc
  rw [if_pos rfl]
  have hmx : (if rd ls (d : Int) < v then (v : Int) else rd ls d) ≤ x ↔ rd ls (d : Int) ≤ x ∧ (v : Int) ≤ x := by split <;> omega
  rw [hmx, hH]
  constructor
  ·rintro ⟨⟨a, b, e⟩, f⟩
   refine ⟨a, b, fun hn j' hj' hq => ?_⟩
   exact f
  ·rintro ⟨a, b, e⟩
   exact ⟨⟨a, b, fun hn j' hj' hq => e hn j' (by omega) hq⟩, e hne j (by omega) he⟩
 ·rw [if_neg hdc, hH]
  constructor
  ·rintro ⟨a, b, e⟩
   refine ⟨a, b, fun hn j' hj' hq => ?_⟩
   rcases Nat.lt_succ_iff_lt_or_eq.mp hj' with hl | rfl
   ·exact e hn j' hl hq
   ·omega
  ·rintro ⟨a, b, e⟩
   exact ⟨a, b, fun hn j' hj' hq => e hn j' (by omega) hq⟩
theorem LP.next {h : List Int} {m0 : Int} {v : Nat} {ls : List Int} (hv : 1 ≤ v) (H : LP h m0 v 2 ls) : LP h m0 (v + 1) 0 ls := by
 refine ⟨H.1, fun c hc x => ?_⟩
 rw [H.2 c hc x]
 constructor
 ·rintro ⟨a, b, d⟩
  refine ⟨a, fun u h1 h2 hne hor => ?_, fun _ j' hj => by omega⟩
  rcases Nat.lt_succ_iff_lt_or_eq.mp h2 with hl | rfl
  ·exact b u h1 hl hne hor
  ·rcases hor with ho | ho
   ·exact d hne 1 (by omega) (by rw [show (u : Int) - 1 + ((1 : Nat) : Int) = u by omega]; exact ho)
   ·exact d hne 0 (by omega) (by rw [show (u : Int) - 1 + ((0 : Nat) : Int) = u - 1 by omega]; exact ho)
 ·rintro ⟨a, b, d⟩
  refine ⟨a, fun u h1 h2 hne hor => b u h1 (by omega) hne hor, fun hne j' hj' he => ?_⟩
  refine b v hv (by omega) hne ?_
  have : j' = 0 ∨ j' = 1 := by omega
  rcases this with rfl | rfl
  ·right; rw [← he]; congr 1; omega
  ·left; rw [← he]; congr 1; omega
theorem LP.ends {h : List Int} {m0 : Int} {ls : List Int} (H : LP h m0 h.length 0 ls) (c : Nat) (hc : c < 8) (x : Int) : rd ls c ≤ x ↔ m0 ≤ x ∧ leastOK h c x = true := by
 rw [H.2 c hc x]
 unfold leastOK
 rw [List.all_eq_true]
 constructor
 ·rintro ⟨a, b, d⟩
  refine ⟨a, fun u hu => ?_⟩
  rw [List.mem_range] at hu
  simp only [Bool.or_eq_true, decide_eq_true_eq, beq_iff_eq, Bool.not_eq_true', Bool.or_eq_false_iff, beq_eq_false_iff_ne]
  by_cases h0 : u = 0
  ·exact .inl (.inl (.inl h0))
  ·by_cases h1 : rd h u = rd h ((u : Int) - 1)
   ·exact .inl (.inl (.inr h1))
   ·by_cases h2 : rd h u = c ∨ rd h ((u : Int) - 1) = c
    ·exact .inr (b u (by omega) hu h1 h2)
    ·exact .inl (.inr ⟨fun h3 => h2 (.inl h3), fun h3 => h2 (.inr h3)⟩)
 ·rintro ⟨a, b⟩
  refine ⟨a, fun u h1 h2 hne hor => ?_, fun hne j' hj => by omega⟩
  have := b u (List.mem_range.mpr h2)
  simp only [Bool.or_eq_true, decide_eq_true_eq, beq_iff_eq, Bool.not_eq_true', Bool.or_eq_false_iff, beq_eq_false_iff_ne] at this
  rcases this with ((h3 | h3) | h3) | h3
  ·omega
  ·exact absurd h3 hne
  ·rcases hor with ho | ho
   ·exact absurd ho h3.1
   ·exact absurd ho h3.2
  ·exact h3
theorem holdersB.at {l : List Int} (h : holdersB l = true) (i : Int) (h0 : 0 ≤ i) (h1 : i < l.length) : -1 ≤ rd l i ∧ rd l i ≤ 7 := by
 simp only [holdersB, Bool.and_eq_true, List.all_eq_true] at h
 have hi : i.toNat < l.length := by omega
 have := h.2 l[i.toNat] (List.getElem_mem _)
 simp only [inB, Bool.and_eq_true, decide_eq_true_eq] at this
 simpa [rd, hi] using this
theorem route_Valid.no1 (A0 : Option Addr) (c0 : Nat) (l0 : List Int) (A1 : Option Addr) (c1 : Nat) (l1 : List Int) (a2 : Int) (w : World) (hr0 : Kd.C (Kd.int .i64) w A0 l0.length l0) (hc0 : l0.length ≤ c0) (hb : holdersB l0 = false) :
  Calls Try.prog 18 #[.slice A0 l0.length c0, .slice A1 l1.length c1, .int .i64 a2] w fun e w' => e = .returned (.bool false) ∧ Below w.heap.size w w' := by
 go_enter Try.func18, Try.ntmps18
 go_wp2_with (first | (go_at_call 35; refine (route_isWithin.calls _ _ _ _ _ (route_isWithin.tells _ _ _)).mono ?_; rintro e w' ⟨rfl, m, rfl⟩) | (go_at_call 38; refine (route_areHolders.calls _ _ _ _ _ hr0 hc0 rfl).mono ?_; rintro e w1 ⟨rfl, hB1⟩))
 go_ret
 exact ⟨rfl, by repeat (first | assumption | apply pw_below_drewN)⟩
theorem route_Valid.no2 (A0 : Option Addr) (c0 : Nat) (l0 : List Int) (A1 : Option Addr) (c1 : Nat) (l1 : List Int) (a2 : Int) (w : World) (hr0 : Kd.C (Kd.int .i64) w A0 l0.length l0) (hc0 : l0.length ≤ c0) (hb : holdersB l0 = true) (hk : (l1.length : Int) ≠ 8) :
  Calls Try.prog 18 #[.slice A0 l0.length c0, .slice A1 l1.length c1, .int .i64 a2] w fun e w' => e = .returned (.bool false) ∧ Below w.heap.size w w' := by
 have hk1 : ((l1.length : Int) != 8) = true := bne_iff_ne.mpr hk
 have hk2 : ((l1.length : Int) == 8) = false := beq_eq_false_iff_ne.mpr hk
 clear hk
 go_enter Try.func18, Try.ntmps18
 go_wp2_with (first | (go_at_call 35; refine (route_isWithin.calls _ _ _ _ _ (route_isWithin.tells _ _ _)).mono ?_; rintro e w' ⟨rfl, m, rfl⟩) | (go_at_call 38; refine (route_areHolders.calls _ _ _ _ _ hr0 hc0 rfl).mono ?_; rintro e w1 ⟨rfl, hB1⟩))
 go_ret
 exact ⟨rfl, by repeat (first | assumption | apply pw_below_drewN)⟩
theorem route_Valid.no3 (A0 : Option Addr) (c0 : Nat) (l0 : List Int) (A1 : Option Addr) (c1 : Nat) (l1 : List Int) (a2 : Int) (w : World) (hr0 : Kd.C (Kd.int .i64) w A0 l0.length l0) (hc0 : l0.length ≤ c0) (hb : holdersB l0 = true) (hk : (l1.length : Int) = 8) (hlag : inB a2 0 10 = false) :
  Calls Try.prog 18 #[.slice A0 l0.length c0, .slice A1 l1.length c1, .int .i64 a2] w fun e w' => e = .returned (.bool false) ∧ Below w.heap.size w w' := by
 have hk1 : ((l1.length : Int) != 8) = false := bne_eq_false_iff_eq.mpr hk
 have hk2 : ((l1.length : Int) == 8) = true := beq_iff_eq.mpr hk
 clear hk
 go_enter Try.func18, Try.ntmps18
 go_wp2_with (first | (go_at_call 35; refine (route_isWithin.calls _ _ _ _ _ (route_isWithin.tells _ _ _)).mono ?_; rintro e w' ⟨rfl, m, rfl⟩) | (go_at_call 38; refine (route_areHolders.calls _ _ _ _ _ hr0 hc0 rfl).mono ?_; rintro e w1 ⟨rfl, hB1⟩))
 go_ret
 exact ⟨rfl, by repeat (first | assumption | apply pw_below_drewN)⟩
theorem route_Valid.yes (A0 : Option Addr) (c0 : Nat) (l0 : List Int) (A1 : Option Addr) (c1 : Nat) (l1 : List Int) (a2 : Int) (w : World) (hr0 : Kd.C (Kd.int .i64) w A0 l0.length l0) (hc0 : l0.length ≤ c0) (hr1 : Kd.C (Kd.int .i64) w A1 l1.length l1) (hc1 : l1.length ≤ c1) (hb : holdersB l0 = true) (hk : (l1.length : Int) = 8) (hlag : inB a2 0 10 = true) :
  Calls Try.prog 18 #[.slice A0 l0.length c0, .slice A1 l1.length c1, .int .i64 a2] w fun e w' => e = .returned (.bool (validB l0 l1 a2)) ∧ Below w.heap.size w w' := by
 have hl30 : l0.length ≤ 30 := by simp [holdersB, inB] at hb; omega
 have hl1 : 1 ≤ l0.length := by simp [holdersB, inB] at hb; omega
 have hlag0 : 0 ≤ a2 := by simp [inB] at hlag; omega
 have hlag1 : a2 ≤ 10 := by simp [inB] at hlag; omega
 have hk1 : ((l1.length : Int) != 8) = false := bne_eq_false_iff_eq.mpr hk
 have hk2 : ((l1.length : Int) == 8) = true := beq_iff_eq.mpr hk
 have HK := Aside0.mk hk
 clear hk
 have hold : ∀ i : Int, 0 ≤ i → i < l0.length → -1 ≤ rd l0 i ∧ rd l0 i ≤ 7 := holdersB.at hb
 go_enter Try.func18, Try.ntmps18
 go_wp2_with (first | (go_at_call 35; refine (route_isWithin.calls _ _ _ _ _ (route_isWithin.tells _ _ _)).mono ?_; rintro e w' ⟨rfl, m, rfl⟩) | (go_at_call 38; refine (route_areHolders.calls _ _ _ _ _ hr0 hc0 rfl).mono ?_; rintro e w1 ⟨rfl, hB1⟩))
 have hA0 : Arr .i64 81 ((w1.drewN m).alloc (Obj.cells #[Value.int IntKind.i64 0, Value.int IntKind.i64 0, Value.int IntKind.i64 0, Value.int IntKind.i64 0, Value.int IntKind.i64 0, Value.int IntKind.i64 0, Value.int IntKind.i64 0, Value.int IntKind.i64 0] 81)) w1.heap.size (List.replicate 8 0) := Arr.new .i64 81 (w1.drewN m) (List.replicate 8 0)
 have hBe0 : Below w.heap.size w ((w1.drewN m).alloc (Obj.cells #[Value.int IntKind.i64 0, Value.int IntKind.i64 0, Value.int IntKind.i64 0, Value.int IntKind.i64 0, Value.int IntKind.i64 0, Value.int IntKind.i64 0, Value.int IntKind.i64 0, Value.int IntKind.i64 0] 81)) := below_alloc (pw_below_drewN hB1 m) _
 have hGE : w.heap.size ≤ w1.heap.size := hB1.size
 generalize w1.heap.size = B at hA0 hGE ⊢
 generalize hm0 : (if a2 < (l0.length : Int) - 1 then (l0.length : Int) - 1 - a2 else 0) = m0
 have HM0 := Aside0.mk hm0
 go_loopw [31] (fun v wr => ∃ i : Nat, v = .int .i64 (i : Int) ∧ i ≤ 8 ∧ Below w.heap.size w wr ∧ Arr .i64 81 wr B (List.replicate i m0 ++ List.replicate (8 - i) 0)) (fun v _ => (8 - intOf v).toNat)
 case atStart => exact ⟨0, rfl, by omega, hBe0, hA0⟩
 case round =>
  clear hA0 hBe0 hm0
  obtain ⟨i, rfl, hi, hBe, hA⟩ := hrel
  by_cases hlt : i < 8
  ·have hf := hA.frozen i
   have hc := hA.cell i (by simp; omega)
   have hset := hA.set i m0
   go_wp2
   rw [HM0.out]
   go_roundw
   case rel =>
    refine ⟨i + 1, by go_num, by omega, below_set hBe hGE, ?_⟩
    have e : (List.replicate i m0 ++ List.replicate (8 - i) 0).set i m0 = List.replicate (i + 1) m0 ++ List.replicate (8 - (i + 1)) 0 := by
     rw [List.set_append_right _ _ (by simp)]
     simp only [List.length_replicate, Nat.sub_self]
     rw [show 8 - i = (8 - (i + 1)) + 1 by omega, List.replicate_succ, List.set_cons_zero, List.replicate_succ', List.append_assoc]
     rfl
    rw [← e]; exact hset
   case measure => simp [intOf]; omega
  ·obtain rfl : i = 8 := by omega
   have hA1 : Arr .i64 81 wr B (List.replicate 8 m0) := by simpa using hA
   clear hA
   have hlp := LP.start l0 m0
   rw [show ((8 : Nat) : Int) = (8 : Int) from rfl]
   go_wp2
   go_loopw [10] (fun v wr => ∃ (v0 : Nat) (ls : List Int), v = .int .i64 (v0 : Int) ∧ 1 ≤ v0 ∧ v0 ≤ l0.length ∧ Below w.heap.size w wr ∧ Arr .i64 81 wr B ls ∧ LP l0 m0 v0 0 ls) (fun v _ => (l0.length - intOf v).toNat)
   case atStart => exact ⟨1, _, rfl, by omega, by omega, hBe, hA1, hlp⟩
   case round =>
    clear hBe hA1 hlp
    obtain ⟨v, ls, rfl, hv1, hv2, hBe, hA, HL⟩ := hrel
    by_cases hlt : v < l0.length
    ·have hr := Kd.C_below hr0 hBe
     have hR := Aside0.mk hr
     obtain ⟨ad, e, hx⟩ := Kd.at_int hr (v : Int) (by omega) (by omega)
     cases e; rw [Int.toNat_natCast] at hx
     obtain ⟨_, e, hy⟩ := Kd.at_int hr ((v : Int) - 1) (by omega) (by omega)
     cases e
     rw [show ((v : Int) - 1).toNat = v - 1 by omega] at hy
     clear hr
     obtain ⟨i0, hi0, _, hsz, _⟩ := info_parts info3
     have hcut : ∀ W : World, (Instr.slice 23 (.slice (some ad) l0.length c0) (some (.int .i64 ((v : Int) - 1))) (some (.int .i64 ((v : Int) + 1))) none).run Try.prog W = .ok (.slice (some (ad.add (v - 1))) 2 (c0 - (v - 1))) W := by
      intro W
      rw [cut_mid (P := Try.prog) 23 3 .i64 .i64 Try.underlying23 hi0 1 hsz (some ad) l0.length c0 ((v : Int) - 1) ((v : Int) + 1) (by omega) (by omega) (by omega) hc0 W]
      rw [if_neg (by omega), show ((v : Int) - 1).toNat = v - 1 by omega, show ((v : Int) + 1).toNat = v + 1 by omega, show v + 1 - (v - 1) = 2 by omega]
      simp
     clear hi0 hsz
     have hlt1 : decide ((v : Int) ≤ (l0.length : Int) - 1) = true := decide_eq_true (by omega)
     go_wp2
     clear hx hy
     go_loopw [53] (fun u wr => ∃ (j : Nat) (ls : List Int), u = .int .i64 (j : Int) ∧ j ≤ 2 ∧ Below w.heap.size w wr ∧ Arr .i64 81 wr B ls ∧ LP l0 m0 v j ls) (fun u _ => (2 - intOf u).toNat)
     case atStart => exact ⟨0, _, rfl, by omega, hBe, hA, HL⟩
     case round =>
      clear hBe hA HL hR hcut
      obtain ⟨j, ls, rfl, hj, hBe, hA, HL⟩ := hrel
      by_cases hltj : j < 2
      ·have hr := Kd.C_below hr0 hBe
       obtain ⟨_, e, hx⟩ := Kd.at_int hr (v : Int) (by omega) (by omega)
       cases e; rw [Int.toNat_natCast] at hx
       obtain ⟨_, e, hy⟩ := Kd.at_int hr ((v : Int) - 1) (by omega) (by omega)
       cases e; rw [show ((v : Int) - 1).toNat = v - 1 by omega] at hy
       obtain ⟨_, e, hz⟩ := Kd.at_int hr ((v : Int) - 1 + j) (by omega) (by omega)
       cases e; rw [show ((v : Int) - 1 + j).toNat = v - 1 + j by omega, ← add_add] at hz
       clear hr
       by_cases hneg : 0 ≤ rd l0 ((v : Int) - 1 + j)
       ·have hneg' := decide_eq_true hneg
        by_cases heq : rd l0 v = rd l0 ((v : Int) - 1)
        ·have h1 := beq_iff_eq.mpr heq
         have h2 := bne_eq_false_iff_eq.mpr heq
         have HE := Aside0.mk heq
         clear heq
         go_wp2
         go_quiet (fail)
         go_wp2
         go_roundw
         case rel => exact ⟨j + 1, ls, by go_num, by omega, pw_below_drewN hBe _, hA.drewN _, HL.skip (.inl HE.out)⟩
         case measure => simp [intOf]; omega
        ·have h1 := beq_eq_false_iff_ne.mpr heq
         have h2 := bne_iff_ne.mpr heq
         obtain ⟨d, hd⟩ : ∃ d : Nat, rd l0 ((v : Int) - 1 + j) = d := ⟨(rd l0 ((v : Int) - 1 + j)).toNat, by omega⟩
         have hd8 : d < 8 := by have := hold ((v : Int) - 1 + j) (by omega) (by omega); omega
         have hf := hA.frozen d
         have hc := hA.cell d (by rw [HL.1]; exact hd8)
         have hset := (hA.set d (if rd ls d < v then (v : Int) else rd ls d))
         have hlp := HL.put heq d hd8 hd
         rw [hd] at hz
         have HD := Aside0.mk hd
         have HLP := Aside0.mk hlp
         clear heq hd hlp hneg hneg'
         go_wp2
         go_quiet (fail)
         go_wp2
         go_roundw
         case rel => exact ⟨j + 1, _, by go_num, by omega, below_set (pw_below_drewN hBe _) hGE, (hA.drewN _).set d _, HLP.out⟩
         case measure => simp [intOf]; omega
       ·have hneg' := decide_eq_false hneg
        have HN := Aside0.mk (show rd l0 ((v : Int) - 1 + j) < 0 by omega)
        go_wp2
        go_quiet (fail)
        go_wp2
        go_roundw
        case rel => exact ⟨j + 1, ls, by go_num, by omega, pw_below_drewN hBe _, hA.drewN _, HL.skip (.inr HN.out)⟩
        case measure => simp [intOf]; omega
      ·obtain rfl : j = 2 := by omega
       have HN := Aside0.mk (HL.next hv1)
       clear HL
       go_wp2
       go_roundw
       case rel => exact ⟨v + 1, ls, by go_num, by omega, by omega, hBe, hA, HN.out⟩
       case measure => simp [intOf]; omega
    ·obtain rfl : v = l0.length := by omega
     have HE := Aside0.mk (fun c hc x => HL.ends c hc x)
     have hll := HL.1
     clear HL
     have hm0 : 0 ≤ m0 ∧ ∀ x : Int, 0 ≤ x → (m0 ≤ x ↔ (l0.length : Int) - 1 - a2 ≤ x) := by have := HM0.out; split at this <;> constructor <;> (try intros) <;> omega
     have HM := Aside0.mk hm0
     clear hm0
     go_wp2
     go_loopw [81] (fun u wr => ∃ i : Nat, u = .int .i64 (i : Int) ∧ i ≤ 8 ∧ Below w.heap.size w wr ∧ Arr .i64 81 wr B ls ∧ Aside0 (∀ c : Nat, c < i → okKnown l0 l1 a2 c = true)) (fun u _ => (8 - intOf u).toNat)
     case atStart => exact ⟨0, rfl, by omega, hBe, hA, ⟨fun c hc => by omega⟩⟩
     case round =>
      clear hBe hA
      obtain ⟨i, rfl, hi, hBe, hA, HO⟩ := hrel
      by_cases hlt : i < 8
      ·have hr := Kd.C_below hr1 hBe
       have h8 := HK.out
       obtain ⟨ad1, e, hx⟩ := Kd.at_int hr (i : Int) (by omega) (by omega)
       cases e; rw [Int.toNat_natCast] at hx
       clear hr
       have hlt8 : decide ((i : Int) < (l1.length : Int)) = true := decide_eq_true (by omega)
       have hlt8n : i < l1.length := by omega
       clear h8
       have hc := hA.cell i (by omega)
       have hok : inB (rd l1 i) (rd ls i) ((l0.length : Int) - 1) = true ↔ (0 ≤ rd l1 i ∧ (l0.length : Int) - 1 - a2 ≤ rd l1 i ∧ leastOK l0 i (rd l1 i) = true ∧ rd l1 i < l0.length) := by
        simp only [inB, Bool.and_eq_true, decide_eq_true_eq]
        rw [HE.out i hlt (rd l1 i)]
        constructor
        ·rintro ⟨⟨h1, h2⟩, h3⟩
         have h0 : 0 ≤ rd l1 i := by have := HM.out.1; omega
         exact ⟨h0, (HM.out.2 _ h0).mp h1, h2, by omega⟩
        ·rintro ⟨h0, h1, h2, h3⟩
         exact ⟨⟨(HM.out.2 _ h0).mpr h1, h2⟩, by omega⟩
       have HOK := Aside0.mk hok
       clear hok
       by_cases h1 : rd l1 i = -1
       ·have h2 := bne_eq_false_iff_eq.mpr h1
        have h3 := beq_iff_eq.mpr h1
        have H1 := Aside0.mk h1
        clear h1
        go_wp2_with (fail)
        go_roundw
        case rel =>
         refine ⟨i + 1, by go_num, by omega, hBe, hA, ⟨fun c hc => ?_⟩⟩
         rcases Nat.lt_succ_iff_lt_or_eq.mp hc with hl | rfl
         ·exact HO.out c hl
         ·simp [okKnown, H1.out]
        case measure => simp [intOf]; omega
       ·have h2 := bne_iff_ne.mpr h1
        have h3 := beq_eq_false_iff_ne.mpr h1
        have H1 := Aside0.mk h1
        clear h1
        cases hq : inB (rd l1 i) (rd ls i) ((l0.length : Int) - 1) with
        | true =>
         go_wp2_with (go_at_call 35; refine (route_isWithin.calls _ _ _ _ _ (route_isWithin.tells _ _ _)).mono ?_; rintro e w' ⟨rfl, m, rfl⟩)
         go_roundw
         case rel =>
          refine ⟨i + 1, by go_num, by omega, pw_below_drewN hBe _, hA.drewN _, ⟨fun c hc => ?_⟩⟩
          rcases Nat.lt_succ_iff_lt_or_eq.mp hc with hl | rfl
          ·exact HO.out c hl
          ·have := HOK.out.mp hq
           simp [okKnown, this]
         case measure => simp [intOf]; omega
        | false =>
         go_wp2_with (go_at_call 35; refine (route_isWithin.calls _ _ _ _ _ (route_isWithin.tells _ _ _)).mono ?_; rintro e w' ⟨rfl, m, rfl⟩)
         go_ret
         have hno : ¬ okKnown l0 l1 a2 i = true := by
          intro hk
          simp only [okKnown, Bool.or_eq_true, beq_iff_eq, Bool.and_eq_true, decide_eq_true_eq] at hk
          rcases hk with hk | hk
          ·exact H1.out hk
          ·have := HOK.out.mpr ⟨hk.1.1.1, hk.1.1.2, hk.1.2, hk.2⟩
           rw [hq] at this; cases this
         refine ⟨?_, pw_below_drewN hBe _⟩
         have : validB l0 l1 a2 = false := by
          rw [Bool.eq_false_iff]
          intro hv
          simp only [validB, Bool.and_eq_true, List.all_eq_true] at hv
          exact hno (hv.2 i (List.mem_range.mpr hlt))
         rw [this]; rfl
      ·obtain rfl : i = 8 := by omega
       have h8 := HK.out
       have hlt8 : decide ((8 : Int) < (l1.length : Int)) = false := decide_eq_false (by omega)
       have hlt8n : ¬ 8 < l1.length := by omega
       clear h8
       go_wp2_with (fail)
       go_ret
       refine ⟨?_, hBe⟩
       have : validB l0 l1 a2 = true := by
        have h8 := HK.out
        simp only [validB, Bool.and_eq_true, List.all_eq_true, decide_eq_true_eq]
        exact ⟨⟨⟨hb, by omega⟩, hlag⟩, fun c hc => HO.out c (List.mem_range.mp hc)⟩
       rw [this]; rfl
theorem route_Valid.calls (A0 : Option Addr) (c0 : Nat) (l0 : List Int) (A1 : Option Addr) (c1 : Nat) (l1 : List Int) (a2 : Int) (r : Bool) (w : World) (hr0 : Kd.C (Kd.int .i64) w A0 l0.length l0) (hc0 : l0.length ≤ c0) (hr1 : Kd.C (Kd.int .i64) w A1 l1.length l1) (hc1 : l1.length ≤ c1) (h : route_Valid.f l0 l1 a2 = some r) :
  Calls Try.prog 18 #[.slice A0 l0.length c0, .slice A1 l1.length c1, .int .i64 a2] w fun e w' => e = .returned (.bool r) ∧ Below w.heap.size w w' := by
 obtain rfl := Option.some.inj h
 by_cases hb : holdersB l0 = true
 ·by_cases hk : (l1.length : Int) = 8
  ·by_cases hl : inB a2 0 10 = true
   ·exact route_Valid.yes A0 c0 l0 A1 c1 l1 a2 w hr0 hc0 hr1 hc1 hb hk hl
   ·refine (route_Valid.no3 A0 c0 l0 A1 c1 l1 a2 w hr0 hc0 hb hk (by simpa using hl)).mono ?_
    rintro e w' ⟨rfl, hB⟩
    exact ⟨by simp [validB, hl], hB⟩
  ·refine (route_Valid.no2 A0 c0 l0 A1 c1 l1 a2 w hr0 hc0 hb hk).mono ?_
   rintro e w' ⟨rfl, hB⟩
   have : ¬ l1.length = 8 := by omega
   exact ⟨by simp [validB, this], hB⟩
 ·refine (route_Valid.no1 A0 c0 l0 A1 c1 l1 a2 w hr0 hc0 (by simpa using hb)).mono ?_
  rintro e w' ⟨rfl, hB⟩
  exact ⟨by simp [validB, hb], hB⟩
end Go.Proofs.Ytlhhcjlcaacfpaa.P
