-- PRINTED by print.py (a twelfth state) out of the translation. Not trusted: Lean checks it.
import Derived.Test.YtlhhcjlcaacfpaaPx0
import Derived.Test.YtlhhcjlcaacfpaaPx18
import Derived.Test.YtlhhcjlcaacfpaaPx19
import Derived.Test.YtlhhcjlcaacfpaaPx23
import Derived.Test.YtlhhcjlcaacfpaaPx24
import Derived.Test.YtlhhcjlcaacfpaaPx30
import Derived.Test.YtlhhcjlcaacfpaaPx31
namespace Go.Proofs.Ytlhhcjlcaacfpaa.P
open Go.RowKit Go.Proofs.YtlhhcjlcaacfpaaW.PrintWords Go.Proofs.YtlhhcjlcaacfpaaW.PrintLast Go.Proofs.YtlhhcjlcaacfpaaW.PrintMore Go.Proofs.YtlhhcjlcaacfpaaH Go.Proofs.YtlhhcjlcaacfpaaR Go.Proofs.YtlhhcjlcaacfpaaM
attribute [local go_sem] max2_int min2_int max_two min_two max_three min_three max_four min_four   -- for this text's walks alone
set_option linter.unusedVariables false
set_option linter.unusedSimpArgs false

/-! ### table_Between: function 12 -/
attribute [local go_sem] Oper.semAt_some
open Go.Sort Go.Maps in
def hold (m : List S99) (n : Int) : Int := if findIx n m < 0 then -1 else if mapB m then (rd_T99 m (findIx n m)).f1 else -1
theorem table_holder.tells (m : List S99) (n : Int) : table_holder.f m n = some (hold m n) := by
 unfold table_holder.f block_Find.f hold
 by_cases h1 : findIx n m < 0
 ·simp [h1]
 ·by_cases h2 : mapB m = true <;> simp [h1, h2]
def holdL (n a b : Int) (xs : List (Int × List S99)) : List Int := (xs.filter (fun x => inT x.1 a b)).map (fun x => hold x.2 n)
theorem holdL_yes {n a b : Int} {xs : List (Int × List S99)} {i : Nat} {x : Int × List S99} (hx : xs[i]? = some x) (h : inT x.1 a b = true) : holdL n a b (xs.take (i + 1)) = holdL n a b (xs.take i) ++ [hold x.2 n] := by
 rw [List.take_add_one, hx]
 simp [holdL, List.filter_append, h]
theorem holdL_no {n a b : Int} {xs : List (Int × List S99)} {i : Nat} {x : Int × List S99} (hx : xs[i]? = some x) (h : inT x.1 a b = false) : holdL n a b (xs.take (i + 1)) = holdL n a b (xs.take i) := by
 rw [List.take_add_one, hx]
 simp [holdL, List.filter_append, h]
def table_Between.f (l0 : List S58) (a1 a2 a3 : Int) : Option (List Int × Int) :=
 (table_Valid.f l0).bind fun ok => if ok = true then if inT a1 0 99999999 then if inT a2 0 a3 then if (l0.length : Int) < a3 then some ([], 230) else
  (mapsE l0).bind fun xs => if (holdL a1 a2 a3 xs).all (fun c => inT c (-1) 7) then some (canonL (holdL a1 a2 a3 xs), 0) else none
  else some ([], 230) else some ([], 230) else some ([], 230)
set_option maxHeartbeats 4000000 in
set_option maxRecDepth 100000 in
theorem table_Between.calls (A0 : Option Addr) (c0 : Nat) (l0 : List S58) (a1 a2 a3 : Int) (r1 : List Int) (r2 : Int) (w : World) (hr0 : Kd.C k58 w A0 l0.length l0) (hc0 : l0.length ≤ c0) (h : table_Between.f l0 a1 a2 a3 = some (r1, r2)) :
  Calls Try.prog 12 #[.slice A0 l0.length c0, .int .i64 a1, .int .i64 a2, .int .i64 a3] w fun e w' => ∃ v0_ : Value, e = .returned (.tuple #[v0_, .int .i64 r2]) ∧ Kd.R (Kd.int .i64) 3 w' w.heap.size (fun _ => True) v0_ r1 ∧ Below w.heap.size w w' := by
 unfold table_Between.f at h
 cases hv : table_Valid.f l0 with
 | none => rw [hv] at h; cases h
 | some ok =>
  rw [hv] at h
  simp only [Option.bind_some] at h
  have HV := Aside0.mk (fun W hb => table_Valid.calls A0 c0 l0 ok W (Kd.C_below hr0 hb) hc0 hv)
  have HR0 := Aside0.mk hr0
  have HVV := Aside0.mk hv
  have hm0 := Kd.C_max hr0
  clear hr0 hv
  obtain ⟨b0, hb0⟩ : ∃ b, w.heap.size = b := ⟨_, rfl⟩
  refine (callsIn_wide (n := 0)).1 ?_
  refine callsIn_of_wp_marks Try.func12 rfl trivial ?_
  simp only [Try.ntmps12, List.size_toArray, List.length_cons, List.length_nil, Nat.reduceAdd, Nat.reduceSub, Array.replicate_succ, Array.replicate_zero, List.push_toArray, List.append_toArray, List.nil_append, List.cons_append]
  obtain ⟨Wi, hWi⟩ : ∃ W, ((w.alloc (.cells #[.int .i64 a1] 3)).alloc (.cells #[.int .i64 a2] 3)).alloc (.cells #[.int .i64 a3] 3) = W := ⟨_, rfl⟩
  have HX0 : Aside0 (Boxed Wi b0 3 (.int .i64 a1)) := ⟨by rw [← hWi, ← hb0]; exact ((Boxed.new _ _ _).alloc _).alloc _⟩
  have HX1 : Aside0 (Boxed Wi (b0 + 1) 3 (.int .i64 a2)) := ⟨by rw [← hWi, ← hb0]; exact (Boxed.new_at _ _ _ (by simp)).alloc _⟩
  have HX2 : Aside0 (Boxed Wi (b0 + 1 + 1) 3 (.int .i64 a3)) := ⟨by rw [← hWi, ← hb0]; exact Boxed.new_at _ _ _ (by simp)⟩
  have HBE : Aside0 (Below w.heap.size w Wi) := ⟨by rw [← hWi]; exact below_alloc (below_alloc (below_alloc (Below.refl _ _) _) _) _⟩
  have HVI := Aside0.mk (HV.out Wi HBE.out)
  rw [← hWi] at HVI
  cases ok with
  | false =>
   rw [if_neg (by decide)] at h
   simp only [Option.some.injEq, Prod.mk.injEq] at h
   obtain ⟨rfl, rfl⟩ := h
   have HWI := Aside0.mk hWi
   clear hWi
   refine wpIn_wide.2 ?_
   go_wp2_with (first | (go_at_call 24; refine HVI.out.mono ?_; rintro e w2 ⟨rfl, hk2⟩; have HK2 := Aside0.mk hk2; have g0 := HX0.out; have g1 := HX1.out; have g2 := HX2.out; rw [← HWI.out] at g0 g1 g2; have HG0 := Aside0.mk (g0.later hk2); have HG1 := Aside0.mk (g1.later hk2); have HG2 := Aside0.mk (g2.later hk2); clear hk2 g0 g1 g2; have n0 := HG0.out.cell; have n1 := HG1.out.cell; have n2 := HG2.out.cell))
   refine ⟨_, results_tmp2 rfl _ _ _, _, rfl, Kd.R_nil _ _ _ _ _, ?_⟩
   have hb := HBE.out
   rw [← HWI.out] at hb
   exact (hb.trans (HK2.out.mono hb.size)).trans (by repeat (first | exact Below.refl _ _ | apply pw_below_drewN))
  | true =>
   rw [if_pos rfl] at h
   have HWI := Aside0.mk hWi
   clear hWi
   cases hi1 : inT a1 0 99999999 with
   | false =>
    rw [if_neg (by rw [hi1]; decide)] at h
    simp only [Option.some.injEq, Prod.mk.injEq] at h
    obtain ⟨rfl, rfl⟩ := h
    refine wpIn_wide.2 ?_
    go_wp2_with (first | (go_at_call 24; refine HVI.out.mono ?_; rintro e w2 ⟨rfl, hk2⟩; have HK2 := Aside0.mk hk2; have g0 := HX0.out; have g1 := HX1.out; have g2 := HX2.out; rw [← HWI.out] at g0 g1 g2; have HG0 := Aside0.mk (g0.later hk2); have HG1 := Aside0.mk (g1.later hk2); have HG2 := Aside0.mk (g2.later hk2); clear hk2 g0 g1 g2; have n0 := HG0.out.cell; have n1 := HG1.out.cell; have n2 := HG2.out.cell) | (go_at_call 23; (with_reducible refine (table_isIn.calls _ _ _ _ _ (table_isIn.tells _ _ _)).mono ?_); (first | rw [hi1] | rw [hi2]); rintro e w3 ⟨rfl, m3, rfl⟩))
    refine ⟨_, results_tmp2 rfl _ _ _, _, rfl, Kd.R_nil _ _ _ _ _, ?_⟩
    have hb := HBE.out
    rw [← HWI.out] at hb
    exact (hb.trans (HK2.out.mono hb.size)).trans (by repeat (first | exact Below.refl _ _ | apply pw_below_drewN))
   | true =>
    rw [if_pos hi1] at h
    cases hi2 : inT a2 0 a3 with
    | false =>
     rw [if_neg (by rw [hi2]; decide)] at h
     simp only [Option.some.injEq, Prod.mk.injEq] at h
     obtain ⟨rfl, rfl⟩ := h
     refine wpIn_wide.2 ?_
     go_wp2_with (first | (go_at_call 24; refine HVI.out.mono ?_; rintro e w2 ⟨rfl, hk2⟩; have HK2 := Aside0.mk hk2; have g0 := HX0.out; have g1 := HX1.out; have g2 := HX2.out; rw [← HWI.out] at g0 g1 g2; have HG0 := Aside0.mk (g0.later hk2); have HG1 := Aside0.mk (g1.later hk2); have HG2 := Aside0.mk (g2.later hk2); clear hk2 g0 g1 g2; have n0 := HG0.out.cell; have n1 := HG1.out.cell; have n2 := HG2.out.cell) | (go_at_call 23; (with_reducible refine (table_isIn.calls _ _ _ _ _ (table_isIn.tells _ _ _)).mono ?_); (first | rw [hi1] | rw [hi2]); rintro e w3 ⟨rfl, m3, rfl⟩))
     refine ⟨_, results_tmp2 rfl _ _ _, _, rfl, Kd.R_nil _ _ _ _ _, ?_⟩
     have hb := HBE.out
     rw [← HWI.out] at hb
     exact (hb.trans (HK2.out.mono hb.size)).trans (by repeat (first | exact Below.refl _ _ | apply pw_below_drewN))
    | true =>
     rw [if_pos hi2] at h
     by_cases hgt : (l0.length : Int) < a3
     ·rw [if_pos hgt] at h
      have hgb : decide ((l0.length : Int) < a3) = true := decide_eq_true hgt
      clear hgt
      simp only [Option.some.injEq, Prod.mk.injEq] at h
      obtain ⟨rfl, rfl⟩ := h
      refine wpIn_wide.2 ?_
      go_wp2_with (first | (go_at_call 24; refine HVI.out.mono ?_; rintro e w2 ⟨rfl, hk2⟩; have HK2 := Aside0.mk hk2; have g0 := HX0.out; have g1 := HX1.out; have g2 := HX2.out; rw [← HWI.out] at g0 g1 g2; have HG0 := Aside0.mk (g0.later hk2); have HG1 := Aside0.mk (g1.later hk2); have HG2 := Aside0.mk (g2.later hk2); clear hk2 g0 g1 g2; have n0 := HG0.out.cell; have n1 := HG1.out.cell; have n2 := HG2.out.cell) | (go_at_call 23; (with_reducible refine (table_isIn.calls _ _ _ _ _ (table_isIn.tells _ _ _)).mono ?_); (first | rw [hi1] | rw [hi2]); rintro e w3 ⟨rfl, m3, rfl⟩))
      refine ⟨_, results_tmp2 rfl _ _ _, _, rfl, Kd.R_nil _ _ _ _ _, ?_⟩
      have hb := HBE.out
      rw [← HWI.out] at hb
      exact (hb.trans (HK2.out.mono hb.size)).trans (by repeat (first | exact Below.refl _ _ | apply pw_below_drewN))
     ·rw [if_neg hgt] at h
      have hgb : decide ((l0.length : Int) < a3) = false := decide_eq_false hgt
      clear hgt
      cases hz : mapsE l0 with
      | none => rw [hz] at h; cases h
      | some xs =>
       rw [hz] at h
       simp only [Option.bind_some] at h
       have HZ := Aside0.mk hz
       have HH := Aside0.mk h
       clear hz h
       have hmm := @run_makeMap Try.prog
       refine wpIn_wide.2 ?_
       go_wp2_with (first | (go_at_call 24; refine HVI.out.mono ?_; rintro e w2 ⟨rfl, hk2⟩; have HK2 := Aside0.mk hk2; have g0 := HX0.out; have g1 := HX1.out; have g2 := HX2.out; rw [← HWI.out] at g0 g1 g2; have HG0 := Aside0.mk (g0.later hk2); have HG1 := Aside0.mk (g1.later hk2); have HG2 := Aside0.mk (g2.later hk2); clear hk2 g0 g1 g2; have n0 := HG0.out.cell; have n1 := HG1.out.cell; have n2 := HG2.out.cell) | (go_at_call 23; (with_reducible refine (table_isIn.calls _ _ _ _ _ (table_isIn.tells _ _ _)).mono ?_); (first | rw [hi1] | rw [hi2]); rintro e w3 ⟨rfl, m3, rfl⟩) | (go_at_call 32; refine (table_maps.calls _ _ _ _).mono ?_; rintro e w' ⟨rfl, rfl⟩))
       refine (wpIn_wide (n := 0)).1 ?_
       obtain ⟨b, hb⟩ : ∃ b, w2.heap.size = b := ⟨_, rfl⟩
       rw [hb]
       have hbw0 := HBE.out
       have hszi : Wi.heap.size = b0 + 3 := by rw [HWI.out.symm]; simp [hb0]
       have hk2 := HK2.out
       rw [HWI.out] at hk2
       have hbb : b0 + 3 ≤ b := by
        have := hk2.size
        omega
       refine name_world fun W0 hW0 => ?_
       have hsz : W0.heap.size = b + 3 := by rw [hW0]; simp [hb]
       have hbe : Below w.heap.size w W0 := by rw [hW0]; exact below_alloc (below_alloc (below_alloc (pw_below_drewN (hbw0.trans (hk2.mono hbw0.size)) _) _) _) _
       have hY0 : Boxed W0 b0 3 (.int .i64 a1) := by rw [hW0]; exact ((HG0.out.alloc _).alloc _).alloc _
       have hY1 : Boxed W0 (b0 + 1) 3 (.int .i64 a2) := by rw [hW0]; exact ((HG1.out.alloc _).alloc _).alloc _
       have hY2 : Boxed W0 (b0 + 1 + 1) 3 (.int .i64 a3) := by rw [hW0]; exact ((HG2.out.alloc _).alloc _).alloc _
       have hY3 : Boxed W0 (b + 1) 71 (.map (some b)) := by rw [hW0, ← hb]; exact (Boxed.new_at _ _ _ (by simp)).alloc _
       have hY4 : Boxed W0 (b + 2) 25 (.slice A0 l0.length c0) := by rw [hW0, ← hb]; exact Boxed.new_at _ _ _ (by simp)
       have hY5 : W0.ownsMap Try.prog 3 (plainElem (H := Unit) Try.prog 4) b 0 (.map []) := by
        rw [hW0, ← hb]
        exact ((World.ownsMap_made (w2.drewN _) _ _ _).alloc _).alloc _
       have hml : l0.length ≤ 40 := by
        have hvv := HVV.out
        unfold table_Valid.f at hvv
        by_cases h40 : 40 < l0.length
        ·rw [if_pos h40] at hvv; cases hvv
        ·omega
       have hHH := HH.out
       by_cases hall : (holdL a1 a2 a3 xs).all (fun c => inT c (-1) 7) = true
       ·rw [if_pos hall] at hHH
        simp only [Option.some.injEq, Prod.mk.injEq] at hHH
        obtain ⟨rfl, rfl⟩ := hHH
        have HR7 : Aside0 (∀ x ∈ holdL a1 a2 a3 xs, -1 ≤ x ∧ x ≤ 7) := ⟨fun x hx => by have := List.all_eq_true.1 hall x hx; simp only [inT, Bool.and_eq_true, decide_eq_true_eq] at this; omega⟩
        have hxl : xs.length ≤ 41 := by
         obtain ⟨ys, rfl, hl⟩ := mapsFrom_head HZ.out
         simp only [List.length_cons]
         omega
        clear hW0 n0 n1 n2 hall hbw0
        have hit := table_maps.iter w (b + 5) (b + 2) A0 c0 l0 xs HZ.out W0 HR0.out hc0 (by omega) hbe hY4
        refine range_relround (gf := 46) rfl (goes_in Try.func46 (by kernel_rfl) rfl) hit (by omega) (Below.refl _ _) (by rintro x args W ⟨v, rfl, _⟩; rfl) (fun k hk => hk.elim) (fun k hk => by rw [hsz]; omega)
         (fun i W => Boxed W b0 3 (.int .i64 a1) ∧ Boxed W (b0 + 1) 3 (.int .i64 a2) ∧ Boxed W (b0 + 1 + 1) 3 (.int .i64 a3) ∧ Boxed W (b + 1) 71 (.map (some b)) ∧ Below w.heap.size w W ∧ ∃ (D : DataW Unit) (n : Nat), W.ownsMap Try.prog 3 (plainElem (H := Unit) Try.prog 4) b n D ∧ n ≤ i ∧ SetIs D (holdL a1 a2 a3 (xs.take i)))
         (fun _ _ _ => False) ?_ (fun _ _ _ _ h _ => h)
         ⟨hY0, hY1, hY2, hY3, hbe, _, 0, hY5, Nat.le_refl _, SetIs.start⟩ ?round ?done (fun _ _ _ _ h _ => h.elim)
        ·rw [hsz]
         rintro i A B ⟨h0, h1, h2, h3, hB, D, n, ho, hn, hs⟩ hk
         exact ⟨hk.boxed h0 ⟨fun h => h, by omega, by omega⟩, hk.boxed h1 ⟨fun h => h, by omega, by omega⟩, hk.boxed h2 ⟨fun h => h, by omega, by omega⟩, hk.boxed h3 ⟨fun h => h, by omega, by omega⟩, hB.trans (hk.below hB.size (by intro k _; exact ⟨fun h => h, by omega, by omega⟩)), D, n, Keeps.ownsMap hk ho ⟨fun h => h, by omega, by omega⟩, hn, hs⟩
        case round =>
         rintro i x args W hx ⟨v, rfl, hRv⟩ hlt ⟨h0, h1, h2, h3, hB, D, n, ho, hn, hs⟩
         obtain ⟨Av, cv, rfl⟩ := Kd.R_slice hRv
         rw [hsz] at hlt
         rw [hsz]
         gi_wp2
         refine ⟨Keeps.refl _ _, fun Wb hk hl => ?_⟩
         have h0b := hk.boxed h0 (by omega)
         have h1b := hk.boxed h1 (by omega)
         have h2b := hk.boxed h2 (by omega)
         have h3b := hk.boxed h3 (by omega)
         have hRb := Kd.R_step hRv (fun k hok hlt => hk.block k (by omega) hlt)
         have hob := Keeps.ownsMap hk ho (by omega)
         have hBb : Below w.heap.size w Wb := hB.trans (hk.below hB.size (fun k hk' => by omega))
         have hil : i < xs.length := (List.getElem?_eq_some_iff.mp hx).1
         have d0 := h0b.cell
         have d1 := h1b.cell
         have d2 := h2b.cell
         have d3 := h3b.cell
         have H0B := Aside0.mk h0b
         have H1B := Aside0.mk h1b
         have H2B := Aside0.mk h2b
         have H3B := Aside0.mk h3b
         have HRB := Aside0.mk hRb
         have HOB := Aside0.mk hob
         have HBB := Aside0.mk hBb
         have HS := Aside0.mk hs
         clear h0 h1 h2 h3 hRv ho hB hk h0b h1b h2b h3b hRb hob hBb hs
         cases hp : inT x.1 a2 a3 with
         | false =>
          have hq := holdL_no (n := a1) hx hp
          have HQ := Aside0.mk hq
          clear hq hx
          gi_wp2_with (refine ⟨trivial, rfl, ?_⟩; (gi_at_call 23; (with_reducible refine (CallsIn.inRound _ (callsIn_wide.2 (table_isIn.calls _ _ _ _ _ (table_isIn.tells _ _ _)))).mono ?_); rw [hp]; rintro e w3 ⟨rfl, m3, rfl⟩))
          exact ⟨(Keeps.refl _ _).drewN _, H0B.out, H1B.out, H2B.out, H3B.out, pw_below_drewN HBB.out _, D, n, HOB.out, by omega, by rw [HQ.out]; exact HS.out⟩
         | true =>
          have hq := holdL_yes (n := a1) hx hp
          have HQ := Aside0.mk hq
          have hx7 := HR7.out (hold x.2 a1) (by
           unfold holdL
           exact List.mem_map.2 ⟨x, List.mem_filter.2 ⟨List.mem_of_getElem? hx, hp⟩, rfl⟩)
          obtain ⟨_, hmc, hRC⟩ := Kd.R_reads' HRB.out
          have HRC := Aside0.mk hRC
          have HTL := Aside0.mk (table_holder.tells x.2 a1)
          clear hq hx hRC
          generalize hold x.2 a1 = hh at HQ hx7 HTL
          have HHO : Aside0 (∀ W, Below Wb.heap.size Wb W → Calls Try.prog 27 #[.slice Av x.2.length cv, .int .i64 a1] W fun e w' => e = .returned (.int .i64 hh) ∧ Below W.heap.size W w') := ⟨fun W hb => table_holder.calls _ _ _ _ _ _ (Kd.C_below HRC.out hb) hmc HTL.out⟩
          have hmx : Try.prog.follows .mixedOrders = true := by kernel_rfl
          gi_wp2_with (refine ⟨trivial, rfl, ?_⟩; (gi_at_call 23; (with_reducible refine (CallsIn.inRound _ (callsIn_wide.2 (table_isIn.calls _ _ _ _ _ (table_isIn.tells _ _ _)))).mono ?_); rw [hp]; rintro e w3 ⟨rfl, m3, rfl⟩))
          gi_region_with_o (refine ⟨trivial, rfl, ?_⟩; gi_at_call 27; refine (CallsIn.inRound _ (callsIn_wide.2 (HHO.out _ (by repeat (first | exact Below.refl _ _ | apply pw_below_drewN | apply below_drew1))))).mono ?_; rintro e w5 ⟨rfl, hk5⟩; have HK6 : Aside0 (Below Wb.heap.size Wb w5) := ⟨(pw_below_drewN (Below.refl _ _) _).trans hk5⟩; clear hk5; obtain ⟨w6, hrun, hown6, hg6⟩ := World.ownsMap.update (t := 71) (e := 4) (Keeps.ownsMap (Z := fun _ => True) (Keeps.of_below HK6.out) HOB.out trivial) (Maps.int_keyed Try.underlying3) Try.underlying71 (by unfold maxLen; omega) (Maps.keyOf_int_mk Try.underlying3 (WalkArith.wf_i64 (n := hh) (by omega))) (plainElem_bool Try.underlying4 true); have d5 := (H3B.out.later HK6.out).cell; have HO6 := Aside0.mk hown6; have HG6 := Aside0.mk hg6; clear hown6 hg6)
          all_goals
           have hkb : Keeps (fun k => k = b + 3 ∨ k = b + 3 + 1 ∨ k < w.heap.size ∨ k = b + 2 ∨ b + 5 ≤ k) Wb w6 := (Keeps.of_below HK6.out).trans (Keeps.of_grown HG6.out (fun k e hz => by cases e; omega))
           refine ⟨hkb, ?_, ?_, ?_, ?_, ?_, _, n + 1, HO6.out, by omega, by rw [HQ.out]; exact HS.out.put _ _⟩
           ·exact (HG6.out.block _ (H0B.out.later HK6.out).lt (fun e => by injection e with e; omega)).trans (H0B.out.later HK6.out)
           ·exact (HG6.out.block _ (H1B.out.later HK6.out).lt (by intro e; injection e; omega)).trans (H1B.out.later HK6.out)
           ·exact (HG6.out.block _ (H2B.out.later HK6.out).lt (by intro e; injection e; omega)).trans (H2B.out.later HK6.out)
           ·exact (HG6.out.block _ (H3B.out.later HK6.out).lt (by intro e; injection e; omega)).trans (H3B.out.later HK6.out)
           ·exact (HBB.out.trans (HK6.out.mono HBB.out.size)).grown HG6.out (Nat.le_trans HBB.out.size HK6.out.size) (fun k e => by cases e; omega)
        case done =>
         rintro W ⟨h0, h1, h2, h3, hB, D, n, ho, hn, hs⟩ hD
         rw [hsz] at hD ⊢
         rw [List.take_length] at hs
         have d3 := h3.cell
         have hsize : W.heap.size = W.heap.size := rfl
         have HD := Aside0.mk hD
         have HO := Aside0.mk ho
         have HS := Aside0.mk hs
         have HB := Aside0.mk hB
         have H3 := Aside0.mk h3
         clear hD ho hs hB h0 h1 h2 h3 hsize
         gi_wp2
         go_wp2_with (at_range; refine wpList_range_own _ rfl _ 71 rfl 3 4 (Maps.int_keyed Try.underlying3) Try.underlying71 (plainElem (H := Unit) Try.prog 4) b n D rfl HO.out ?_; intro w7 hrg7 hg7 hs7)
         go_frame
         obtain ⟨r, hr⟩ : ∃ r, W.heap.size = r := ⟨_, rfl⟩
         rw [hr] at hrg7 hs7
         rw [hr]
         have hrb : b + 4 ≤ r := by have := blk_lt HD.out; omega
         have hD7 : w7.heap[b + 3]? = some (.deferred (some [])) := (hg7.block _ (blk_lt HD.out) (by simp)).trans HD.out
         have HRG := Aside0.mk hrg7
         have HD7 := Aside0.mk hD7
         have HB7 : Aside0 (Below w.heap.size w w7) := ⟨HB.out.grown hg7 HB.out.size (fun k e => by cases e)⟩
         have hsz7 : r + 1 ≤ w7.heap.size := by omega
         have hcol := CollI.start D
         have hmsz : Maps.size D ≤ 41 := by
          have := HO.out
          obtain ⟨es, clock, hbq, F, hss, rfl⟩ := this
          have hnn : n ≤ 41 := by omega
          simp only [Maps.size]
          rw [Go.length_sorted]
          simp
          omega
         have HCO := Aside0.mk hcol
         clear hrg7 hg7 hs7 hD7 hcol
         refine (wpIn_wide (n := 0)).1 ?_
         gi_loopw [13] (fun v wr => ∃ (left : Lit → Bool) (cnt : Nat) (ss : List Int) (A : Option Addr) (c : Nat), v = .slice A ss.length c ∧ Aside0 (wr.ranges Try.prog 3 (plainElem (H := Unit) Try.prog 4) b r n D left cnt) ∧ Aside0 (Kd.R (Kd.int .i64) 3 wr w.heap.size (fun k => r < k) (.slice A ss.length c) ss) ∧ Aside0 (CollI D left ss) ∧ Aside0 (Below w.heap.size w wr) ∧ Aside0 (wr.heap[b + 3]? = some (.deferred (some []))) ∧ ss.length + cnt ≤ 41 ∧ r + 1 ≤ wr.heap.size) (fun _ wr => wr.rangeLeft b r)
         case atStart => exact ⟨_, _, [], none, 0, rfl, ⟨HRG.out⟩, ⟨Kd.R_nil _ _ _ _ _⟩, ⟨HCO.out⟩, ⟨HB7.out⟩, ⟨HD7.out⟩, by simpa using hmsz, hsz7⟩
         case round =>
          obtain ⟨left, cnt, ss, A, c, rfl, HG, HR, HC, HBW, HDD, hcnt, hszr⟩ := hrel
          clear HRG HD7 HB7 HCO hsz7
          have hbwr : w.heap.size ≤ r := by have := HB.out.size; omega
          gi_wp2_with (first | (gi_at_next; refine next_setI rfl _ rfl 3 4 Try.underlying3 Try.underlying4 b r n D left cnt rfl HG.out (fun HL0 => ?_) (fun x cc w8 cnt8 HF8 hen => ?_)) | (gi_at_builtin; refine R_append_in (Kd.int .i64) w.heap.size rfl _ _ 23 3 (.int .i64 0) 8 rfl Try.underlying23 info3 rfl (by decide) (by omega) (.slice A ss.length c) ss x [.int .i64 x] (fun k => r < k) (fun _ => False) rfl rfl ?aP (fun _ hk => hk.elim) ?aF ?aO ?aS ?aL ?_; (case aP => exact rfl); (case aF => exact fun k hk => by have h8 := HF8.out.2.2.2.2.2; omega); (case aO => exact Kd.R_step HR.out (fun k hok hlt => HF8.out.2.2.2.2.1.block k hlt (fun e => by injection e with e; omega))); (case aS => have h8 := HF8.out.2.2.2.2.2; have hbb := HBW.out.size; omega); (case aL => omega); intro v1 w9 ho hg hat; obtain ⟨Av1, cv1, rfl⟩ := Kd.R_slice ho; have HO9 := Aside0.mk ho; have HG9 := Aside0.mk hg; clear ho hg hat))
          ·have hCE := HC.out.sorted HL0.out HS.out HR7.out
           have HCE := Aside0.mk hCE
           clear hCE
           by_cases hss : ss = []
           ·subst hss
            rw [List.mergeSort_nil] at HCE
            go_wp2_with (go_at_call 33; refine (Try.slices_Sort_int_none _ _ _).mono ?_; rintro e w9 ⟨rfl, hw9⟩; rw [hw9]; clear hw9)
            have hK : Keeps (fun k => k ≠ b + 3) wr (wr.putObj (b + 3) (.deferred none)) := Keeps.putObj _ _ _ (fun h => h rfl)
            refine ⟨by simp, .inl ⟨_, _, rfl, run_takeDeferred (w := wr) HDD.out, ?_⟩⟩
            refine ⟨_, results_tmp2 rfl _ _ _, _, rfl, ?_, HBW.out.trans (hK.below HBW.out.size (fun k hk => by omega))⟩
            rw [← HCE.out]
            exact Kd.R_mono (Kd.R_step HR.out (fun k hk hlt => hK.block k (by omega) hlt)) (fun _ _ => trivial)
           ·have hpos : 0 < ss.length := List.length_pos_iff.2 hss
            obtain ⟨g, rfl⟩ : ∃ g, A = some ⟨g, 0, none⟩ := by
             obtain ⟨g, cap, e, _⟩ := Kd.R_form HR.out hpos
             injection e with e1
             exact ⟨g, e1⟩
            have hrg : r < g := HR.out.1 g rfl
            obtain ⟨hH, hgl⟩ := R_holdsI HR.out
            have HSO := Aside0.mk (Try.slices_Sort_int g 0 c ss wr hH hgl (by omega))
            clear hH hss
            go_wp2_with (go_at_call 33; refine HSO.out.mono ?_; rintro e w9 ⟨rfl, nn, os, hw9⟩; have HW9 := Aside0.mk hw9; clear hw9)
            have hg9 : wr.grownBy w9 (some g) := by rw [HW9.out]; exact grownBy_sortedI _
            have hR9 : Kd.R (Kd.int .i64) 3 w9 w.heap.size (fun k => r < k) (.slice (some ⟨g, 0, none⟩) ss.length c) (ss.mergeSort (fun x y => decide (x ≤ y))) := by rw [HW9.out]; exact R_sortedI HR.out (by simp)
            have hD9 : w9.heap[b + 3]? = some (.deferred (some [])) := (hg9.block _ (blk_lt HDD.out) (fun e => by injection e with e; omega)).trans HDD.out
            have hB9 : Below w.heap.size w w9 := HBW.out.grown hg9 HBW.out.size (fun k e => by injection e with e; omega)
            have hK : Keeps (fun k => k ≠ b + 3) w9 (w9.putObj (b + 3) (.deferred none)) := Keeps.putObj _ _ _ (fun h => h rfl)
            refine ⟨by simp, .inl ⟨_, _, rfl, run_takeDeferred (w := w9) hD9, ?_⟩⟩
            refine ⟨_, results_tmp2 rfl _ _ _, _, rfl, ?_, hB9.trans (hK.below hB9.size (fun k hk => by omega))⟩
            rw [← HCE.out]
            exact Kd.R_mono (Kd.R_step hR9 (fun k hk hlt => hK.block k (by omega) hlt)) (fun _ _ => trivial)
          ·obtain ⟨hlk, ⟨y, hat⟩, hrg8, hlt8, hg8, hs8⟩ := HF8.out
           have hrow : ∀ k, k ≤ r → some k ≠ (Value.slice A ss.length c).ownBlock := fun k hk e => by have := HR.out.1 k e.symm; omega
           have hB8 : Below w.heap.size w w8 := HBW.out.grown hg8 HBW.out.size (fun k e => by injection e with e; omega)
           have hrg9 := hrg8.kept HG9.out (hrow b (by omega)) (hrow r (Nat.le_refl _))
           refine ⟨⟨_, cnt8, ss ++ [x], Av1, cv1, by simp, ⟨hrg9⟩, ⟨HO9.out⟩, ⟨HC.out.step hlk hat⟩, ⟨hB8.grown HG9.out hB8.size (fun k e => Nat.le_trans hbwr (Nat.le_of_lt (HR.out.1 k e)))⟩, ⟨?_⟩, by simp; omega, ?_⟩, ?_⟩
           ·exact (HG9.out.block _ (Nat.lt_of_lt_of_le (blk_lt HDD.out) hg8.size) (hrow _ (by omega))).trans ((hg8.block _ (blk_lt HDD.out) (fun e => by injection e with e; omega)).trans HDD.out)
           ·have := HG9.out.size; omega
           ·rw [hrg9.left_eq, HG.out.left_eq]; exact hlt8
       ·rw [if_neg hall] at hHH; cases hHH

end Go.Proofs.Ytlhhcjlcaacfpaa.P
