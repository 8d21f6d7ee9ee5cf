-- PRINTED by print.py (a twelfth state) out of the translation. Not trusted: Lean checks it.
import Derived.Test.YtlhhcjlcaacfpaaPx0
import Derived.Test.YtlhhcjlcaacfpaaPx22
namespace Go.Proofs.Ytlhhcjlcaacfpaa.P
open Go.RowKit Go.Proofs.YtlhhcjlcaacfpaaW.PrintWords Go.Proofs.YtlhhcjlcaacfpaaW.PrintLast Go.Proofs.YtlhhcjlcaacfpaaW.PrintMore Go.Proofs.YtlhhcjlcaacfpaaH Go.Proofs.YtlhhcjlcaacfpaaR Go.Proofs.YtlhhcjlcaacfpaaM
attribute [local go_sem] max2_int min2_int max_two min_two max_three min_three max_four min_four   -- for this text's walks alone
set_option linter.unusedVariables false
set_option linter.unusedSimpArgs false

/-! ### table_maps: function 32 -/
attribute [local go_sem] Oper.semAt_some
def stepM (m : List S99) (u : S58) : Option (List S99 × Int) := if u.f1 = -1 then block_Take.f m u.f0 else block_Give.f m u.f0 u.f1
def mapsFrom : Nat → List S99 → List S58 → Option (List (Int × List S99))
 | v, m, [] => some [((v : Int), m)]
 | v, m, u :: l => (stepM m u).bind fun r => if r.2 = 0 then (mapsFrom (v + 1) r.1 l).bind fun z => some (((v : Int), m) :: z) else some [((v : Int), m)]
def mapsE (l : List S58) : Option (List (Int × List S99)) := mapsFrom 0 [] l
theorem mapsFrom_head : ∀ {v : Nat} {m : List S99} {l : List S58} {xs : List (Int × List S99)}, mapsFrom v m l = some xs → ∃ ys, xs = ((v : Int), m) :: ys ∧ ys.length ≤ l.length
 | v, m, [], xs, h => by
  simp only [mapsFrom, Option.some.injEq] at h
  exact ⟨[], h.symm, by simp⟩
 | v, m, u :: l, xs, h => by
  simp only [mapsFrom] at h
  cases hs : stepM m u with
  | none => rw [hs] at h; cases h
  | some r =>
   rw [hs] at h
   simp only [Option.bind_some] at h
   split at h
   ·cases hz : mapsFrom (v + 1) r.1 l with
    | none => rw [hz] at h; cases h
    | some z =>
     rw [hz] at h
     simp only [Option.bind_some, Option.some.injEq] at h
     obtain ⟨ys, rfl, hl⟩ := mapsFrom_head hz
     exact ⟨_, h.symm, by simp only [List.length_cons]; omega⟩
   ·simp only [Option.some.injEq] at h
    exact ⟨[], h.symm, by simp⟩
theorem mapsFrom_cons {v : Nat} {m : List S99} {u : S58} {l : List S58} {xs : List (Int × List S99)} (h : mapsFrom v m (u :: l) = some xs) :
  ∃ r, stepM m u = some r ∧ ((r.2 ≠ 0 ∧ xs = [((v : Int), m)]) ∨ (r.2 = 0 ∧ ∃ z, mapsFrom (v + 1) r.1 l = some z ∧ xs = ((v : Int), m) :: z)) := by
 simp only [mapsFrom] at h
 cases hs : stepM m u with
 | none => rw [hs] at h; cases h
 | some r =>
  rw [hs] at h
  simp only [Option.bind_some] at h
  refine ⟨r, rfl, ?_⟩
  by_cases h0 : r.2 = 0
  ·rw [if_pos h0] at h
   cases hz : mapsFrom (v + 1) r.1 l with
   | none => rw [hz] at h; cases h
   | some z =>
    rw [hz] at h
    simp only [Option.bind_some, Option.some.injEq] at h
    exact .inr ⟨h0, z, rfl, h.symm⟩
  ·rw [if_neg h0] at h
   simp only [Option.some.injEq] at h
   exact .inl ⟨h0, h.symm⟩
def table_maps.enc (T : Nat) (x : Int × List S99) (args : Array Value) (W : World) : Prop := ∃ v, args = #[.int .i64 x.1, v] ∧ Kd.R k99 99 W T (fun k => T ≤ k) v x.2
theorem table_maps.calls (A0 : Option Addr) (n0 c0 : Nat) (w : World) :
  Calls Try.prog 32 #[.slice A0 n0 c0] w fun e w' => e = .returned (.func (.func 46) #[] #[.pointer (some ⟨w.heap.size, 0, none⟩)]) ∧ w' = w.alloc (.cells #[.slice A0 n0 c0] 25) := by
 go_enter Try.func32, Try.ntmps32
 go_wp2
 go_ret
 exact ⟨rfl, rfl⟩
set_option maxHeartbeats 4000000 in
theorem table_maps.iter (wb : World) (T B1 : Nat) (A0 : Option Addr) (c0 : Nat) (l0 : List S58) (xs : List (Int × List S99)) (hxs : mapsE l0 = some xs) (w0 : World)
  (hr0 : Kd.C k58 wb A0 l0.length l0) (hc0 : l0.length ≤ c0) (hm0 : l0.length ≤ 1000000) (hwb : Below wb.heap.size wb w0) (hb1 : Boxed w0 B1 25 (.slice A0 l0.length c0)) :
  IterR Try.prog 46 #[.pointer (some ⟨B1, 0, none⟩)] (table_maps.enc T) (fun _ => False) (fun k => k < wb.heap.size ∨ k = B1 ∨ T ≤ k) T xs w0 := by
 intro l J Jx W hW hT hJ hJx hY h0
 have hB1 : Boxed W B1 25 (.slice A0 l0.length c0) := hb1.later hW
 have hbe : Below wb.heap.size wb W := hwb.trans (hW.mono hwb.size)
 have HR0 := Aside0.mk hr0
 have HJK := Aside0.mk hJ
 have HYY := Aside0.mk hY
 have HH0 := Aside0.mk h0
 have HBE := Aside0.mk hbe
 have HB1 := Aside0.mk hB1
 have hc1 := hB1.cell
 clear hr0 hJ hJx hY h0 hbe hB1
 refine callsIn_of_wp Try.func46 rfl trivial ?_
 simp only [Try.ntmps46, List.size_toArray, List.length_cons, List.length_nil, Nat.reduceAdd, Nat.reduceSub, Array.replicate_succ, Array.replicate_zero, List.push_toArray, List.append_toArray, List.nil_append, List.cons_append]
 obtain ⟨ys, hys, hyl⟩ := mapsFrom_head hxs
 have hx0 : xs[0]? = some ((0 : Int), []) := by rw [hys]; rfl
 obtain ⟨fn, tmps, assign, body, hy, hR⟩ := HYY.out 0 ((0 : Int), []) #[.int .i64 0, .slice none 0 0] W hx0 ⟨_, rfl, Kd.R_nil _ _ _ _ _⟩ HH0.out
 have HRR := Aside0.mk hR
 clear hR hx0
 gi_wp2
 refine ⟨rfl, HRR.out.mono ?_⟩
 rintro e W3 (⟨rfl, hj3, hk3⟩ | ⟨rfl, hx3⟩)
 ·have hG1 := hk3.boxed HB1.out (.inr (.inl rfl))
  have hbe3 : Below wb.heap.size wb W3 := HBE.out.trans (hk3.below HBE.out.size (fun k hk => .inl hk))
  have hT3 : T ≤ W3.heap.size := Nat.le_trans hT hk3.size
  clear hy hk3
  have hcG := hG1.cell
  have HX := Aside0.mk hxs
  clear hxs hys hyl
  gi_wp2
  gi_loopw [3, 13] (fun u3 u13 wr => ∃ (i : Nat) (m : List S99) (A : Option Addr) (c : Nat), u13 = .int .i64 (i : Int) ∧ u3 = .slice A m.length c ∧ i ≤ l0.length ∧ Aside0 (mapsFrom i m (l0.drop i) = some (xs.drop i)) ∧ Aside0 (Kd.R k99 99 wr T (fun k => T ≤ k) (.slice A m.length c) m) ∧ Aside0 (J (i + 1) wr) ∧ Aside0 (Below wb.heap.size wb wr) ∧ Boxed wr B1 25 (.slice A0 l0.length c0) ∧ T ≤ wr.heap.size) (fun _ v _ => (l0.length - intOf v).toNat)
  case atStart => exact ⟨0, [], none, 0, rfl, rfl, by omega, ⟨HX.out⟩, ⟨Kd.R_nil _ _ _ _ _⟩, ⟨hj3⟩, ⟨hbe3⟩, hG1, hT3⟩
  case round =>
   obtain ⟨i, m, A, c, rfl, rfl, hi, HE, HR, HJ, HB, hG, hTr⟩ := hrel
   clear hj3 hbe3 hG1 hT3 hcG HX
   by_cases hlt : i < l0.length
   ·obtain ⟨ad, e, hu0, hu1, hu2, hu3⟩ := at_T58 (Kd.C_below HR0.out HB.out) (i : Int) (by omega) (by omega)
    cases e
    rw [Int.toNat_natCast] at hu0 hu1 hu2 hu3
    have hdrop : l0.drop i = rd_T58 l0 i :: l0.drop (i + 1) := by
     rw [List.drop_eq_getElem_cons hlt]
     simp [rd_T58, hlt]
    have he := HE.out
    rw [hdrop] at he
    obtain ⟨r, hs, hr⟩ := mapsFrom_cons he
    generalize rd_T58 l0 (i : Int) = u at hu0 hu1 hu2 hu3 hs
    obtain ⟨⟨x, y⟩, cr, tm⟩ := u
    obtain ⟨r1, r2⟩ := r
    have HS := Aside0.mk hs
    have HRX := Aside0.mk hr
    clear hdrop he hs hr
    obtain ⟨_, hmc, hRC⟩ := Kd.R_reads' HR.out
    have HRC := Aside0.mk hRC
    clear hRC
    by_cases hcr : cr = -1
    ·subst hcr
     have HSF := Aside0.mk (show block_Take.f m ⟨x, y⟩ = some (r1, r2) by have h := HS.out; simpa [stepM, ] using h)

     rcases HRX.out with ⟨h0, hd⟩ | ⟨h0, z, hz, hd⟩
     ·have h0a : (r2 != 0) = true := bne_iff_ne.mpr h0
      have hlen : xs.length = i + 1 := by
       have := congrArg List.length hd
       simp at this
       omega
      have HLEN := Aside0.mk hlen
      clear hlen h0 hd
      refine wpIn_wide.2 ?_
      go_wp2_with (go_at_call 47; (with_reducible refine ((block_Take.calls _ _ m ⟨x, y⟩ r1 r2 _ (Kd.C_alloc HRC.out _) hmc HSF.out)).mono ?_); rintro e w2 ⟨v2, rfl, hR2, hk2⟩; obtain ⟨A2, c2, rfl⟩ := Kd.R_slice hR2; have HR2 := Aside0.mk hR2; have HK2 := Aside0.mk hk2; clear hR2 hk2)
      refine bodyPost_ret (results_none rfl _ _ _) rfl ?_
      exact ⟨⟨_, rfl⟩, .inl (by rw [HLEN.out]; exact HJK.out _ _ _ HJ.out (((Keeps.refl _ _).alloc _).then_below HK2.out))⟩
     ·have h0 : r2 = 0 := h0
      subst h0
      have hx : xs[i + 1]? = some (((i + 1 : Nat) : Int), r1) := by
       obtain ⟨ys, hys, _⟩ := mapsFrom_head hz
       have h1 : (xs.drop i)[1]? = some (((i + 1 : Nat) : Int), r1) := by rw [hd, hys]; rfl
       rw [List.getElem?_drop] at h1
       exact h1
      have hz2 : mapsFrom (i + 1) r1 (l0.drop (i + 1)) = some (xs.drop (i + 1)) := by
       rw [hz, ← List.tail_drop, hd]; rfl
      have HZ := Aside0.mk hz2
      have HX := Aside0.mk hx
      clear hd hz hz2 hx
      refine wpIn_wide.2 ?_
      go_upto_region 9 with (go_at_call 47; (with_reducible refine (block_Take.calls _ _ m ⟨x, y⟩ r1 0 _ (Kd.C_alloc HRC.out _) hmc HSF.out).mono ?_); rintro e w2 ⟨v2, rfl, hR2, hk2⟩; obtain ⟨A2, c2, rfl⟩ := Kd.R_slice hR2; have HR2 := Aside0.mk hR2; have HK2 := Aside0.mk hk2; clear hR2 hk2)
      have hJ2 := HJK.out _ _ _ HJ.out (((Keeps.refl _ _).alloc _).then_below HK2.out)
      have hT2 : T ≤ w2.heap.size := Nat.le_trans hTr (Nat.le_trans (by simp) HK2.out.size)
      have hRT := Kd.R_mono (Kd.R_lower (Kd.R_bound HR2.out) (base' := T) (by simp; omega)) (ok' := fun k => T ≤ k) (fun k hk => Nat.le_trans hTr (Nat.le_trans (by simp) hk.2.1))
      have HRT := Aside0.mk hRT
      have hbe2 := (below_alloc HB.out (.cells #[.int .i64 x, .int .i64 y, .int .i64 (-1), .int .i64 tm] 58)).trans (HK2.out.mono (below_alloc HB.out _).size)
      have hG2 := (hG.alloc _).later HK2.out
      have HBE2 := Aside0.mk hbe2
      have HG2 := Aside0.mk hG2
      obtain ⟨fn, tmps, assign, body, hy, hR⟩ := HYY.out (i + 1) (((i + 1 : Nat) : Int), r1) #[.int .i64 ((i : Int) + 1), .slice A2 r1.length c2] w2 HX.out ⟨_, by simp, HRT.out⟩ hJ2
      have HRR := Aside0.mk hR
      clear hR hRT hJ2 hbe2 hG2
      refine (wpIn_wide (n := 0)).1 ?_
      gi_wp2
      refine ⟨rfl, HRR.out.mono ?_⟩
      rintro e W3 (⟨rfl, hj3, hk3⟩ | ⟨rfl, hx3⟩)
      ·have HR3 := Aside0.mk (Kd.R_step HRT.out (fun k hok hlt => hk3.block k (.inr (.inr hok)) hlt))
       have hG3 := hk3.boxed HG2.out (.inr (.inl rfl))
       have HBE3 := Aside0.mk (HBE2.out.trans (hk3.below HBE2.out.size (fun k hk => .inl hk)))
       have hT3 := Nat.le_trans hT2 hk3.size
       have HJ3 := Aside0.mk hj3
       clear hy hj3 hk3
       gi_wp2
       go_wp2
       go_roundw
       case rel => exact ⟨i + 1, r1, A2, c2, by go_num, rfl, by omega, ⟨HZ.out⟩, ⟨HR3.out⟩, ⟨HJ3.out⟩, ⟨HBE3.out⟩, hG3, hT3⟩
       case measure => simp [intOf]; omega
      ·have hlt2 := (List.getElem?_eq_some_iff.mp HX.out).1
       gi_wp2
       go_wp2
       refine bodyPost_ret (results_none rfl _ _ _) rfl ?_
       exact ⟨⟨_, rfl⟩, .inr ⟨i + 1, hlt2, hx3⟩⟩
    ·have hcb : (cr == -1) = false := beq_eq_false_iff_ne.mpr hcr
     have HCR := Aside0.mk hcr
     clear hcr
     have HSF := Aside0.mk (show block_Give.f m ⟨x, y⟩ cr = some (r1, r2) by have h := HS.out; simpa [stepM, HCR.out] using h)

     rcases HRX.out with ⟨h0, hd⟩ | ⟨h0, z, hz, hd⟩
     ·have h0a : (r2 != 0) = true := bne_iff_ne.mpr h0
      have hlen : xs.length = i + 1 := by
       have := congrArg List.length hd
       simp at this
       omega
      have HLEN := Aside0.mk hlen
      clear hlen h0 hd
      refine wpIn_wide.2 ?_
      go_wp2_with (go_at_call 48; (with_reducible refine ((block_Give.calls _ _ m ⟨x, y⟩ cr r1 r2 _ (Kd.C_alloc HRC.out _) hmc HSF.out)).mono ?_); rintro e w2 ⟨v2, rfl, hR2, hk2⟩; obtain ⟨A2, c2, rfl⟩ := Kd.R_slice hR2; have HR2 := Aside0.mk hR2; have HK2 := Aside0.mk hk2; clear hR2 hk2)
      refine bodyPost_ret (results_none rfl _ _ _) rfl ?_
      exact ⟨⟨_, rfl⟩, .inl (by rw [HLEN.out]; exact HJK.out _ _ _ HJ.out (((Keeps.refl _ _).alloc _).then_below HK2.out))⟩
     ·have h0 : r2 = 0 := h0
      subst h0
      have hx : xs[i + 1]? = some (((i + 1 : Nat) : Int), r1) := by
       obtain ⟨ys, hys, _⟩ := mapsFrom_head hz
       have h1 : (xs.drop i)[1]? = some (((i + 1 : Nat) : Int), r1) := by rw [hd, hys]; rfl
       rw [List.getElem?_drop] at h1
       exact h1
      have hz2 : mapsFrom (i + 1) r1 (l0.drop (i + 1)) = some (xs.drop (i + 1)) := by
       rw [hz, ← List.tail_drop, hd]; rfl
      have HZ := Aside0.mk hz2
      have HX := Aside0.mk hx
      clear hd hz hz2 hx
      refine wpIn_wide.2 ?_
      go_upto_region 9 with (go_at_call 48; (with_reducible refine (block_Give.calls _ _ m ⟨x, y⟩ cr r1 0 _ (Kd.C_alloc HRC.out _) hmc HSF.out).mono ?_); rintro e w2 ⟨v2, rfl, hR2, hk2⟩; obtain ⟨A2, c2, rfl⟩ := Kd.R_slice hR2; have HR2 := Aside0.mk hR2; have HK2 := Aside0.mk hk2; clear hR2 hk2)
      have hJ2 := HJK.out _ _ _ HJ.out (((Keeps.refl _ _).alloc _).then_below HK2.out)
      have hT2 : T ≤ w2.heap.size := Nat.le_trans hTr (Nat.le_trans (by simp) HK2.out.size)
      have hRT := Kd.R_mono (Kd.R_lower (Kd.R_bound HR2.out) (base' := T) (by simp; omega)) (ok' := fun k => T ≤ k) (fun k hk => Nat.le_trans hTr (Nat.le_trans (by simp) hk.2.1))
      have HRT := Aside0.mk hRT
      have hbe2 := (below_alloc HB.out (.cells #[.int .i64 x, .int .i64 y, .int .i64 cr, .int .i64 tm] 58)).trans (HK2.out.mono (below_alloc HB.out _).size)
      have hG2 := (hG.alloc _).later HK2.out
      have HBE2 := Aside0.mk hbe2
      have HG2 := Aside0.mk hG2
      obtain ⟨fn, tmps, assign, body, hy, hR⟩ := HYY.out (i + 1) (((i + 1 : Nat) : Int), r1) #[.int .i64 ((i : Int) + 1), .slice A2 r1.length c2] w2 HX.out ⟨_, by simp, HRT.out⟩ hJ2
      have HRR := Aside0.mk hR
      clear hR hRT hJ2 hbe2 hG2
      refine (wpIn_wide (n := 0)).1 ?_
      gi_wp2
      refine ⟨rfl, HRR.out.mono ?_⟩
      rintro e W3 (⟨rfl, hj3, hk3⟩ | ⟨rfl, hx3⟩)
      ·have HR3 := Aside0.mk (Kd.R_step HRT.out (fun k hok hlt => hk3.block k (.inr (.inr hok)) hlt))
       have hG3 := hk3.boxed HG2.out (.inr (.inl rfl))
       have HBE3 := Aside0.mk (HBE2.out.trans (hk3.below HBE2.out.size (fun k hk => .inl hk)))
       have hT3 := Nat.le_trans hT2 hk3.size
       have HJ3 := Aside0.mk hj3
       clear hy hj3 hk3
       gi_wp2
       go_wp2
       go_roundw
       case rel => exact ⟨i + 1, r1, A2, c2, by go_num, rfl, by omega, ⟨HZ.out⟩, ⟨HR3.out⟩, ⟨HJ3.out⟩, ⟨HBE3.out⟩, hG3, hT3⟩
       case measure => simp [intOf]; omega
      ·have hlt2 := (List.getElem?_eq_some_iff.mp HX.out).1
       gi_wp2
       go_wp2
       refine bodyPost_ret (results_none rfl _ _ _) rfl ?_
       exact ⟨⟨_, rfl⟩, .inr ⟨i + 1, hlt2, hx3⟩⟩
   ·have hx : i = l0.length := by omega
    have hlen : xs.length = i + 1 := by
     have he := HE.out
     rw [hx, List.drop_length] at he
     simp only [mapsFrom, Option.some.injEq] at he
     have := congrArg List.length he
     simp at this
     omega
    have HLEN := Aside0.mk hlen
    clear hlen
    gi_wp2
    go_end0
    exact ⟨⟨_, rfl⟩, .inl (by rw [HLEN.out]; exact HJ.out)⟩
 ·gi_wp2
  refine bodyPost_ret (results_none rfl _ _ _) rfl ?_
  exact ⟨⟨_, rfl⟩, .inr ⟨0, by rw [hys]; simp, hx3⟩⟩
end Go.Proofs.Ytlhhcjlcaacfpaa.P
