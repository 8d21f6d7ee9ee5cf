-- PRINTED by print.py (a twelfth state) out of the translation. Not trusted: Lean checks it.
import Derived.Test.YtlhhcjlcaacfpaaPx0
import Derived.Test.YtlhhcjlcaacfpaaPx18
import Derived.Test.YtlhhcjlcaacfpaaPx23
namespace Go.Proofs.Ytlhhcjlcaacfpaa.P
open Go.RowKit Go.Proofs.YtlhhcjlcaacfpaaW.PrintWords Go.Proofs.YtlhhcjlcaacfpaaW.PrintLast Go.Proofs.YtlhhcjlcaacfpaaW.PrintMore Go.Proofs.YtlhhcjlcaacfpaaH Go.Proofs.YtlhhcjlcaacfpaaR Go.Proofs.YtlhhcjlcaacfpaaM
attribute [local go_sem] max2_int min2_int max_two min_two max_three min_three max_four min_four   -- for this text's walks alone
set_option linter.unusedVariables false
set_option linter.unusedSimpArgs false

/-! ### table_Valid: function 24 -/
attribute [local go_sem] Oper.semAt_some
def timesB : Int → List S58 → Bool
  | _, [] => true
  | last, u :: l => decide (last ≤ u.f2) && decide (u.f2 ≤ 10000000) && !decide (u.f1 < -1) && timesB u.f2 l
def lastV (xs : List (Int × List S99)) : Int := match xs.getLast? with
  | some x => x.1
  | none => 0
theorem lastV_snoc (xs : List (Int × List S99)) (x : Int × List S99) : lastV (xs ++ [x]) = x.1 := by simp [lastV]
def table_Valid.f (l0 : List S58) : Option Bool := if 40 < l0.length then some false else if timesB 0 l0 then (mapsE l0).bind fun xs => some (lastV xs == (l0.length : Int)) else some false
def inT (n lo hi : Int) : Bool := decide (lo ≤ n) && decide (n ≤ hi)
theorem table_isIn.tells (n lo hi : Int) : table_isIn.f n lo hi = some (inT n lo hi) := by
  unfold table_isIn.f inT
  by_cases h : lo ≤ n <;> simp [h]
set_option maxHeartbeats 4000000 in
theorem table_Valid.calls (A0 : Option Addr) (c0 : Nat) (l0 : List S58) (r : Bool) (w : World) (hr0 : Kd.C k58 w A0 l0.length l0) (hc0 : l0.length ≤ c0) (h : table_Valid.f l0 = some r) :
    Calls Try.prog 24 #[.slice A0 l0.length c0] w fun e w' => e = .returned (.bool r) ∧ Below w.heap.size w w' := by
  unfold table_Valid.f at h
  have hm0 := Kd.C_max hr0
  have HR0 := Aside0.mk hr0
  clear hr0
  by_cases hl : 40 < l0.length
  · rw [if_pos hl] at h
    obtain rfl := Option.some.inj h
    have hl2 : decide ((40 : Int) < (l0.length : Int)) = true := decide_eq_true (by omega)
    clear hl
    go_enter Try.func24, Try.ntmps24
    go_wp2
    go_ret
    exact ⟨rfl, Below.refl _ _⟩
  · rw [if_neg hl] at h
    have HH := Aside0.mk h
    have hl2 : decide ((40 : Int) < (l0.length : Int)) = false := decide_eq_false (by omega)
    have hl3 : l0.length ≤ 40 := by omega
    clear h hl
    refine (callsIn_wide (n := 0)).1 ?_
    refine callsIn_of_wp_marks Try.func24 rfl trivial ?_
    simp only [Try.ntmps24, List.size_toArray, List.length_cons, List.length_nil, Nat.reduceAdd, Nat.reduceSub, Array.replicate_succ, Array.replicate_zero, List.push_toArray, List.append_toArray, List.nil_append, List.cons_append]
    gi_wp2
    gi_loopw [3, 13] (fun u3 u13 wr => ∃ (i : Nat) (last : Int), u13 = .int .i64 (i : Int) ∧ u3 = .int .i64 last ∧ i ≤ l0.length ∧ Aside0 (timesB 0 l0 = timesB last (l0.drop i)) ∧ Below w.heap.size w wr) (fun _ v _ => (l0.length - intOf v).toNat)
    case atStart => exact ⟨0, 0, rfl, rfl, by omega, ⟨rfl⟩, Below.refl _ _⟩
    case round =>
      obtain ⟨i, last, rfl, rfl, hi, HE, HB⟩ := hrel
      by_cases hlt : i < l0.length
      · obtain ⟨ad, e, hu0, hu1, hu2, hu3⟩ := at_T58 (Kd.C_below HR0.out HB) (i : Int) (by omega) (by omega)
        cases e
        rw [Int.toNat_natCast] at hu0 hu1 hu2 hu3
        have hdrop : l0.drop i = rd_T58 l0 i :: l0.drop (i + 1) := by
          rw [List.drop_eq_getElem_cons hlt]
          simp [rd_T58, hlt]
        have he := HE.out
        rw [hdrop] at he
        generalize rd_T58 l0 (i : Int) = u at hu0 hu1 hu2 hu3 he
        obtain ⟨⟨x, y⟩, cr, tm⟩ := u
        simp only [timesB] at he
        cases hin : inT tm last 10000000 with
        | false =>
          have hf : timesB 0 l0 = false := by
            have hin' := hin
            rw [he]
            simp only [inT] at hin'
            rw [hin']
            rfl
          have HF := Aside0.mk hf
          clear hdrop he hf
          refine wpIn_wide.2 ?_
          go_wp2_with (go_at_call 23; (with_reducible refine (table_isIn.calls _ _ _ _ _ (table_isIn.tells _ _ _)).mono ?_); rw [hin]; rintro e w2 ⟨rfl, m2, rfl⟩)
          have hr : r = false := by
            have hh := HH.out
            rw [HF.out, if_neg (by decide)] at hh
            exact (Option.some.inj hh).symm
          subst hr
          exact ⟨_, results_tmp rfl _ _ _, rfl, pw_below_drewN (below_alloc HB _) _⟩
        | true =>
          have hin' := hin
          simp only [inT] at hin'
          rw [hin'] at he
          by_cases hcr : cr < -1
          · have hcb : decide (cr < -1) = true := decide_eq_true hcr
            have HF := Aside0.mk (show timesB 0 l0 = false by rw [he, hcb]; rfl)
            clear hdrop he hin' hcr
            refine wpIn_wide.2 ?_
            go_wp2_with (go_at_call 23; (with_reducible refine (table_isIn.calls _ _ _ _ _ (table_isIn.tells _ _ _)).mono ?_); rw [hin]; rintro e w2 ⟨rfl, m2, rfl⟩)
            have hr : r = false := by
              have hh := HH.out
              rw [HF.out, if_neg (by decide)] at hh
              exact (Option.some.inj hh).symm
            subst hr
            exact ⟨_, results_tmp rfl _ _ _, rfl, pw_below_drewN (below_alloc HB _) _⟩
          · have hcb : decide (cr < -1) = false := decide_eq_false hcr
            have HE2 := Aside0.mk (show timesB 0 l0 = timesB tm (l0.drop (i + 1)) by rw [he, hcb]; rfl)
            clear hdrop he hin' hcr
            refine wpIn_wide.2 ?_
            go_wp2_with (go_at_call 23; (with_reducible refine (table_isIn.calls _ _ _ _ _ (table_isIn.tells _ _ _)).mono ?_); rw [hin]; rintro e w2 ⟨rfl, m2, rfl⟩)
            go_roundw
            case rel => exact ⟨i + 1, tm, by go_num, rfl, by omega, ⟨HE2.out⟩, pw_below_drewN (below_alloc HB _) _⟩
            case measure => simp [intOf]; omega
      · have hx : i = l0.length := by omega
        have ht : timesB 0 l0 = true := by rw [HE.out, hx, List.drop_length]; rfl
        have hh := HH.out
        rw [if_pos ht] at hh
        clear ht HE
        cases hz : mapsE l0 with
        | none => rw [hz] at hh; cases hh
        | some xs =>
          rw [hz] at hh
          simp only [Option.bind_some, Option.some.injEq] at hh
          have HR := Aside0.mk hh
          have HZ := Aside0.mk hz
          clear hh hz hx HH
          have hbw : w.heap.size ≤ wr.heap.size := HB.size
          gi_wp2_with (refine ⟨trivial, rfl, ?_⟩; (gi_at_call 32; refine (callsIn_wide.2 (table_maps.calls _ _ _ _)).mono ?_; rintro e w' ⟨rfl, rfl⟩))
          obtain ⟨b, hb⟩ : ∃ b, wr.heap.size = b := ⟨_, rfl⟩
          rw [hb]
          rw [hb] at hbw
          refine name_world fun W0 hW0 => ?_
          have hsz : W0.heap.size = b + 2 := by rw [hW0]; simp [hb]
          have hbe : Below w.heap.size w W0 := by rw [hW0]; exact below_alloc (below_alloc HB _) _
          have hX0 : Boxed W0 b 3 (.int .i64 0) := by
            rw [hW0, ← hb]; exact (Boxed.new _ _ _).alloc _
          have hX1 : Boxed W0 (b + 1) 25 (.slice A0 l0.length c0) := by
            rw [hW0, ← hb]; exact Boxed.new_at _ _ _ (by simp)
          clear hW0
          have hit := table_maps.iter w (b + 4) (b + 1) A0 c0 l0 xs HZ.out W0 HR0.out hc0 (by omega) hbe hX1
          refine range_relround (gf := 46) rfl (goes_in Try.func46 (by kernel_rfl) rfl) hit (by omega) (Below.refl _ _) (by rintro x args W ⟨v, rfl, _⟩; rfl) (fun k hk => hk.elim) (fun k hk => by rw [hsz]; omega)
            (fun i W => Boxed W b 3 (.int .i64 (lastV (xs.take i))) ∧ Below w.heap.size w W)
            (fun _ _ _ => False) ?_ (fun _ _ _ _ h _ => h)
            ⟨hX0, hbe⟩ ?round ?done (fun _ _ _ _ h _ => h.elim)
          · rw [hsz]
            rintro i A B ⟨hv, hB⟩ hk
            exact ⟨hk.boxed hv ⟨fun h => h, by omega, by omega⟩, hB.trans (hk.below hB.size (by intro k _; exact ⟨fun h => h, by omega, by omega⟩))⟩
          case round =>
            rintro i x args W hx ⟨v, rfl, hRv⟩ hlt ⟨hv, hB⟩
            rw [hsz] at hlt
            rw [hsz]
            have hlast : lastV (xs.take (i + 1)) = x.1 := by
              rw [List.take_add_one, hx]
              exact lastV_snoc _ _
            have HL := Aside0.mk hlast
            clear hlast hx hRv
            gi_wp2
            refine ⟨Keeps.refl _ _, fun Wb hk hl => ?_⟩
            have hvb : Boxed Wb b 3 _ := hk.boxed hv (by omega)
            have hBb : Below w.heap.size w Wb := hB.trans (hk.below hB.size (fun k hk' => by omega))
            have c1 := hvb.cell
            have f1 := hvb.frozen
            clear hv hB
            gi_wp2
            refine ⟨(Keeps.refl _ _).setCell (p := ⟨b, 0, none⟩) (fun h => by have h' : b = b + 2 ∨ b = b + 2 + 1 ∨ b < w.heap.size ∨ b = b + 1 ∨ b + 4 ≤ b := h; omega) _, ?_, hBb.setCell (p := ⟨b, 0, none⟩) hbw _⟩
            rw [HL.out]
            exact hvb.put _
          case done =>
            rintro W ⟨hv, hB⟩ hD
            rw [hsz] at hD ⊢
            rw [List.take_length] at hv
            have hcv := hv.cell
            gi_wp2
            have hK : Keeps (fun k => k ≠ b + 2) W (W.putObj (b + 2) (.deferred none)) := Keeps.putObj _ _ _ (fun h => h rfl)
            refine ⟨by simp, .inl ⟨_, _, rfl, run_takeDeferred (w := W) hD, ?_⟩⟩
            refine ⟨_, results_tmp rfl _ _ _, ?_, hB.trans (hK.below hB.size (fun k hk => by omega))⟩
            rw [← HR.out]
            rfl
end Go.Proofs.Ytlhhcjlcaacfpaa.P
