/- Printed parts of this claim, joined. -/
import Derived.Test.YtlhhcjlcaacfpaaPx0
namespace Go.Proofs.Ytlhhcjlcaacfpaa.P
open Go.RowKit Go.Proofs.YtlhhcjlcaacfpaaW.PrintWords Go.Proofs.YtlhhcjlcaacfpaaW.PrintLast Go.Proofs.YtlhhcjlcaacfpaaW.PrintMore Go.Proofs.YtlhhcjlcaacfpaaH Go.Proofs.YtlhhcjlcaacfpaaR Go.Proofs.YtlhhcjlcaacfpaaM
attribute [local go_sem] max2_int min2_int max_two min_two max_three min_three max_four min_four   -- for this text's walks alone
set_option linter.unusedVariables false
set_option linter.unusedSimpArgs false

-- NOT PRINTED: function 42 (sort_Search)

end Go.Proofs.Ytlhhcjlcaacfpaa.P
namespace Go.Proofs.Ytlhhcjlcaacfpaa.P
open Go.RowKit Go.Proofs.YtlhhcjlcaacfpaaW.PrintWords Go.Proofs.YtlhhcjlcaacfpaaW.PrintLast Go.Proofs.YtlhhcjlcaacfpaaW.PrintMore Go.Proofs.YtlhhcjlcaacfpaaH Go.Proofs.YtlhhcjlcaacfpaaR Go.Proofs.YtlhhcjlcaacfpaaM
attribute [local go_sem] max2_int min2_int max_two min_two max_three min_three max_four min_four   -- for this text's walks alone
set_option linter.unusedVariables false
set_option linter.unusedSimpArgs false

/-! ### table_at: function 25 -/
theorem table_at.c43 (B1 B2 : Nat) (A0 : Option Addr) (c0 : Nat) (l0 : List S58) (t : Int) (i : Nat) (hi : i < l0.length) (w : World) (hr0 : Kd.C k58 w A0 l0.length l0) (hm0 : l0.length ≤ 1000000) (h1 : Boxed w B1 25 (.slice A0 l0.length c0)) (h2 : Boxed w B2 3 (.int .i64 t)) :
  Calls Try.prog 43 #[.int .i64 (i : Int), .pointer (some ⟨B1, 0, none⟩), .pointer (some ⟨B2, 0, none⟩)] w fun e w' => e = .returned (.bool (decide (t < (rd_T58 l0 (i : Int)).f2))) ∧ Drawn0 w w' := by
 obtain ⟨ad, e, hu0, hu1, hu2, hu3⟩ := at_T58 hr0 (i : Int) (by omega) (by omega)
 cases e
 rw [Int.toNat_natCast] at hu0 hu1 hu2 hu3
 generalize rd_T58 l0 (i : Int) = u at hu0 hu1 hu2 hu3
 have hc1 := h1.cell
 have hc2 := h2.cell
 clear hr0 h1 h2
 go_enter Try.func43, Try.ntmps43
 go_wp2
 go_quiet (fail)
 go_wp2
 go_ret
 exact ⟨rfl, ⟨_, rfl⟩⟩
def bsF (p : Nat → Bool) : Nat → Nat → Nat → Nat
 | 0, i, _ => i
 | k + 1, i, j => if i < j then if p ((i + j) / 2) then bsF p k i ((i + j) / 2) else bsF p k ((i + j) / 2 + 1) j else i
set_option maxHeartbeats 1000000 in
theorem table_at.search (B1 B2 : Nat) (A0 : Option Addr) (c0 : Nat) (l0 : List S58) (t : Int) (w : World) (hr0 : Kd.C k58 w A0 l0.length l0) (hm0 : l0.length ≤ 1000000) (h1 : Boxed w B1 25 (.slice A0 l0.length c0)) (h2 : Boxed w B2 3 (.int .i64 t)) :
  Calls Try.prog 42 #[.int .i64 (l0.length : Int), .func (.func 43) #[] #[.pointer (some ⟨B1, 0, none⟩), .pointer (some ⟨B2, 0, none⟩)]] w fun e w' => e = .returned (.int .i64 ((bsF (fun h => decide (t < (rd_T58 l0 (h : Int)).f2)) (l0.length + 1) 0 l0.length : Nat) : Int)) ∧ Drawn0 w w' := by
 have HC := Aside0.mk (fun i hi W hb => table_at.c43 B1 B2 A0 c0 l0 t i hi W (Kd.C_below hr0 hb) hm0 (h1.later hb) (h2.later hb))
 clear hr0 h1 h2
 generalize hp : (fun h : Nat => decide (t < (rd_T58 l0 (h : Int)).f2)) = p
 have HP := Aside0.mk (fun h => congrFun hp h)
 clear hp
 generalize hz : bsF p (l0.length + 1) 0 l0.length = z
 have HZ := Aside0.mk hz
 clear hz
 go_enter Try.func42, Try.ntmps42
 go_wp2
 go_loopw [5, 6] (fun u v wr => ∃ (i j k : Nat), u = .int .i64 (i : Int) ∧ v = .int .i64 (j : Int) ∧ i ≤ j ∧ j ≤ l0.length ∧ j - i < k ∧ Aside0 (bsF p k i j = z) ∧ Drawn0 w wr) (fun u v _ => (intOf v - intOf u).toNat)
 case atStart => exact ⟨0, l0.length, l0.length + 1, rfl, rfl, by omega, by omega, by omega, ⟨HZ.out⟩, Drawn0.refl _⟩
 case round =>
  obtain ⟨i, j, k, rfl, rfl, hij, hj, hk, HE, ⟨m, rfl⟩⟩ := hrel
  obtain ⟨k, rfl⟩ : ∃ n, k = n + 1 := ⟨k - 1, by omega⟩
  by_cases hlt : i < j
  ·have he := HE.out
   rw [bsF, if_pos hlt] at he
   have e1 : ((i : Int) + (j : Int)) / 2 = (((i + j) / 2 : Nat) : Int) := by omega
   have HCC := Aside0.mk (HC.out ((i + j) / 2) (by omega) (w.drewN m) (pw_below_drewN (Below.refl _ _) m))
   have hpp := HP.out ((i + j) / 2)
   cases hph : p ((i + j) / 2) with
   | true =>
    rw [if_pos hph] at he
    have HE2 := Aside0.mk he
    have hd := hpp.trans hph
    have HD := Aside0.mk hd
    clear he hpp hd
    have hb2 : (i + j) / 2 < j := by omega
    have hb3 : i ≤ (i + j) / 2 := by omega
    generalize hh : (i + j) / 2 = h at hph HE2 HD HCC e1 hb2 hb3
    clear hh
    go_wp2_with (go_at_call 43; refine HCC.out.mono ?_; rw [HD.out]; rintro e w2 ⟨rfl, m2, rfl⟩)
    go_roundw
    case rel => exact ⟨i, h, k, rfl, rfl, by omega, by omega, by omega, ⟨HE2.out⟩, by repeat (first | exact Drawn0.refl _ | apply Drawn0.step)⟩
    case measure => simp [intOf]; omega
   | false =>
    rw [if_neg (by rw [hph]; decide)] at he
    have HE2 := Aside0.mk he
    have hd := hpp.trans hph
    have HD := Aside0.mk hd
    clear he hpp hd
    have hb2 : (i + j) / 2 < j := by omega
    have hb3 : i ≤ (i + j) / 2 := by omega
    generalize hh : (i + j) / 2 = h at hph HE2 HD HCC e1 hb2 hb3
    clear hh
    go_wp2_with (go_at_call 43; refine HCC.out.mono ?_; rw [HD.out]; rintro e w2 ⟨rfl, m2, rfl⟩)
    go_roundw
    case rel => exact ⟨h + 1, j, k, by go_num, rfl, by omega, by omega, by omega, ⟨HE2.out⟩, by repeat (first | exact Drawn0.refl _ | apply Drawn0.step)⟩
    case measure => simp [intOf]; omega
  ·have he := HE.out
   rw [bsF, if_neg hlt] at he
   subst he
   go_wp2
   go_ret
   exact ⟨rfl, by repeat (first | exact Drawn0.refl _ | apply Drawn0.step)⟩
def table_at.f (l0 : List S58) (a1 : Int) : Option Int := if l0.length ≤ 1000000 then some ((bsF (fun h => decide (a1 < (rd_T58 l0 (h : Int)).f2)) (l0.length + 1) 0 l0.length : Nat) : Int) else none
theorem table_at.calls (A0 : Option Addr) (c0 : Nat) (l0 : List S58) (a1 : Int) (r : Int) (w : World) (hr0 : Kd.C k58 w A0 l0.length l0) (hc0 : l0.length ≤ c0) (h : table_at.f l0 a1 = some r) :
  Calls Try.prog 25 #[.slice A0 l0.length c0, .int .i64 a1] w fun e w' => e = .returned (.int .i64 r) ∧ Below w.heap.size w w' := by
 unfold table_at.f at h
 by_cases hm : l0.length ≤ 1000000
 ·rw [if_pos hm] at h
  obtain rfl := Option.some.inj h
  have HS := Aside0.mk (fun W hb h1 h2 => table_at.search w.heap.size (w.heap.size + 1) A0 c0 l0 a1 W (Kd.C_below hr0 hb) hm h1 h2)
  clear hr0 h
  generalize (bsF (fun h => decide (a1 < (rd_T58 l0 (h : Int)).f2)) (l0.length + 1) 0 l0.length) = z at HS
  go_enter Try.func25, Try.ntmps25
  go_wp2_with (go_at_call 42; refine (HS.out _ (below_alloc (below_alloc (Below.refl _ _) _) _) ((Boxed.new _ _ _).alloc _) (Boxed.new_at _ _ _ (by simp))).mono ?_; rintro e w2 ⟨rfl, m2, rfl⟩)
  go_ret
  exact ⟨rfl, pw_below_drewN (below_alloc (below_alloc (Below.refl _ _) _) _) _⟩
 ·rw [if_neg hm] at h; cases h
end Go.Proofs.Ytlhhcjlcaacfpaa.P
namespace Go.Proofs.Ytlhhcjlcaacfpaa.P
open Go.RowKit Go.Proofs.YtlhhcjlcaacfpaaW.PrintWords Go.Proofs.YtlhhcjlcaacfpaaW.PrintLast Go.Proofs.YtlhhcjlcaacfpaaW.PrintMore Go.Proofs.YtlhhcjlcaacfpaaH Go.Proofs.YtlhhcjlcaacfpaaR Go.Proofs.YtlhhcjlcaacfpaaM
attribute [local go_sem] max2_int min2_int max_two min_two max_three min_three max_four min_four   -- for this text's walks alone
set_option linter.unusedVariables false
set_option linter.unusedSimpArgs false

-- NOT PRINTED: function 53 (api_Block_53)

-- NOT PRINTED: function 75 (api_Block_75)

end Go.Proofs.Ytlhhcjlcaacfpaa.P
