-- PRINTED by print.py (a twelfth state) out of the translation. Not trusted: Lean checks it.
import Derived.Test.YtlhhcjlcaacfpaaPx0
import Derived.Test.YtlhhcjlcaacfpaaPx23
import Derived.Test.YtlhhcjlcaacfpaaPx24
namespace Go.Proofs.Ytlhhcjlcaacfpaa.P
open Go.RowKit Go.Proofs.YtlhhcjlcaacfpaaW.PrintWords Go.Proofs.YtlhhcjlcaacfpaaW.PrintLast Go.Proofs.YtlhhcjlcaacfpaaW.PrintMore Go.Proofs.YtlhhcjlcaacfpaaH Go.Proofs.YtlhhcjlcaacfpaaR Go.Proofs.YtlhhcjlcaacfpaaM
attribute [local go_sem] max2_int min2_int max_two min_two max_three min_three max_four min_four   -- for this text's walks alone
set_option linter.unusedVariables false
set_option linter.unusedSimpArgs false

/-! ### table_get: function 26 -/
attribute [local go_sem] Oper.semAt_some
def isV (v : Int) (x : Int × List S99) : Bool := x.1 == v
def table_get.f (l0 : List S58) (a1 : Int) : Option (List S99 × Bool) :=
 (table_Valid.f l0).bind fun ok => if ok = true then (mapsE l0).bind fun xs => (match xs.find? (isV a1) with
  | some x => some (x.2, true)
  | none => some ([], false)) else some ([], false)
theorem find_at {α : Type} {p : α → Bool} {xs : List α} {i : Nat} {x : α} (h : (xs.take i).find? p = none) (hx : xs[i]? = some x) (hp : p x = true) : xs.find? p = some x := by
 have hd : xs.drop i = x :: xs.drop (i + 1) := by
  obtain ⟨h1, rfl⟩ := List.getElem?_eq_some_iff.mp hx
  exact List.drop_eq_getElem_cons h1
 rw [← List.take_append_drop i xs, List.find?_append, h, hd]
 simp [List.find?_cons, hp]
theorem find_next {α : Type} {p : α → Bool} {xs : List α} {i : Nat} {x : α} (h : (xs.take i).find? p = none) (hx : xs[i]? = some x) (hp : p x = false) : (xs.take (i + 1)).find? p = none := by
 rw [List.take_add_one, hx, List.find?_append, h]
 simp [hp]
set_option maxHeartbeats 4000000 in
theorem table_get.calls (A0 : Option Addr) (c0 : Nat) (l0 : List S58) (a1 : Int) (r1 : List S99) (r2 : Bool) (w : World) (hr0 : Kd.C k58 w A0 l0.length l0) (hc0 : l0.length ≤ c0) (h : table_get.f l0 a1 = some (r1, r2)) :
  Calls Try.prog 26 #[.slice A0 l0.length c0, .int .i64 a1] w fun e w' => ∃ v0_ : Value, e = .returned (.tuple #[v0_, .bool r2]) ∧ Kd.R k99 99 w' w.heap.size (fun _ => True) v0_ r1 ∧ Below w.heap.size w w' := by
 unfold table_get.f at h
 cases hv : table_Valid.f l0 with
 | none => rw [hv] at h; cases h
 | some ok =>
  rw [hv] at h
  simp only [Option.bind_some] at h
  have HV := Aside0.mk (fun W hb => table_Valid.calls A0 c0 l0 ok W (Kd.C_below hr0 hb) hc0 hv)
  have HR0 := Aside0.mk hr0
  have HVV := Aside0.mk hv
  clear hr0 hv
  obtain ⟨b0, hb0⟩ : ∃ b, w.heap.size = b := ⟨_, rfl⟩
  refine (callsIn_wide (n := 0)).1 ?_
  refine callsIn_of_wp_marks Try.func26 rfl trivial ?_
  simp only [Try.ntmps26, List.size_toArray, List.length_cons, List.length_nil, Nat.reduceAdd, Nat.reduceSub, Array.replicate_succ, Array.replicate_zero, List.push_toArray, List.append_toArray, List.nil_append, List.cons_append]
  have hX0 : Boxed (((w.alloc (.cells #[.int .i64 a1] 3)).alloc (.cells #[.slice none 0 0] 62)).alloc (.cells #[.bool false] 4)) b0 3 (.int .i64 a1) := by
   rw [← hb0]; exact ((Boxed.new _ _ _).alloc _).alloc _
  have hX1 : Boxed (((w.alloc (.cells #[.int .i64 a1] 3)).alloc (.cells #[.slice none 0 0] 62)).alloc (.cells #[.bool false] 4)) (b0 + 1) 62 (.slice none 0 0) := by
   rw [← hb0]; exact (Boxed.new_at _ _ _ (by simp)).alloc _
  have hX2 : Boxed (((w.alloc (.cells #[.int .i64 a1] 3)).alloc (.cells #[.slice none 0 0] 62)).alloc (.cells #[.bool false] 4)) (b0 + 1 + 1) 4 (.bool false) := by
   rw [← hb0]; exact Boxed.new_at _ _ _ (by simp)
  have hbe : Below w.heap.size w (((w.alloc (.cells #[.int .i64 a1] 3)).alloc (.cells #[.slice none 0 0] 62)).alloc (.cells #[.bool false] 4)) := below_alloc (below_alloc (below_alloc (Below.refl _ _) _) _) _
  have HX0 := Aside0.mk hX0
  have HX1 := Aside0.mk hX1
  have HX2 := Aside0.mk hX2
  have HBE := Aside0.mk hbe
  clear hX0 hX1 hX2 hbe
  cases ok with
  | false =>
   rw [if_neg (by decide)] at h
   simp only [Option.some.injEq, Prod.mk.injEq] at h
   obtain ⟨rfl, rfl⟩ := h
   gi_wp2_with (refine ⟨trivial, rfl, ?_⟩; (gi_at_call 24; refine (callsIn_wide.2 (HV.out _ HBE.out)).mono ?_; rintro e w2 ⟨rfl, hk2⟩; have h1 := HX1.out.later hk2; have h2 := HX2.out.later hk2; have c1 := h1.cell; have f1 := h1.frozen; have c2 := h2.cell; have f2 := h2.frozen; have HK2 := Aside0.mk hk2; clear hk2))
   obtain ⟨W, hW⟩ : ∃ W, (w2.setCell ⟨b0 + 1, 0, none⟩ (.slice none 0 0)).setCell ⟨b0 + 1 + 1, 0, none⟩ (.bool false) = W := ⟨_, rfl⟩
   rw [hW]
   have k1 : Boxed W (b0 + 1) 62 (.slice none 0 0) := by rw [← hW]; exact (h1.put _).other (by omega) _
   have k2 : Boxed W (b0 + 1 + 1) 4 (.bool false) := by rw [← hW]; exact (h2.other (by omega) _).put _
   have hbW : Below w.heap.size w W := by rw [← hW]; exact ((HBE.out.trans (HK2.out.mono HBE.out.size)).setCell (p := ⟨b0 + 1, 0, none⟩) (by show w.heap.size ≤ b0 + 1; omega) _).setCell (p := ⟨b0 + 1 + 1, 0, none⟩) (by show w.heap.size ≤ b0 + 1 + 1; omega) _
   have e1 := k1.cell
   have e2 := k2.cell
   exact ⟨.tuple #[.slice none 0 0, .bool false], by simp [results, Try.results26, go_sem, e1, e2], _, rfl, Kd.R_nil _ _ _ _ _, hbW⟩
  | true =>
   rw [if_pos rfl] at h
   cases hz : mapsE l0 with
   | none => rw [hz] at h; cases h
   | some xs =>
    rw [hz] at h
    simp only [Option.bind_some] at h
    have HZ := Aside0.mk hz
    have HH := Aside0.mk h
    clear hz h
    gi_wp2_with (refine ⟨trivial, rfl, ?_⟩; first
     | (gi_at_call 24; refine (callsIn_wide.2 (HV.out _ HBE.out)).mono ?_; rintro e w2 ⟨rfl, hk2⟩; have h1 := HX1.out.later hk2; have h2 := HX2.out.later hk2; have c1 := h1.cell; have f1 := h1.frozen; have c2 := h2.cell; have f2 := h2.frozen; have HK2 := Aside0.mk hk2; clear hk2)
     | (gi_at_call 32; refine (callsIn_wide.2 (table_maps.calls _ _ _ _)).mono ?_; rintro e w' ⟨rfl, rfl⟩))
    obtain ⟨b, hb⟩ : ∃ b, w2.heap.size = b := ⟨_, rfl⟩
    rw [hb]
    have hbb : b0 + 3 ≤ b := by
     have := HK2.out.size
     simp only [World.size_alloc] at this
     omega
    refine name_world fun W0 hW0 => ?_
    have hsz : W0.heap.size = b + 1 := by rw [hW0]; simp [hb]
    have hbe : Below w.heap.size w W0 := by rw [hW0]; exact below_alloc (HBE.out.trans (HK2.out.mono HBE.out.size)) _
    have hY0 : Boxed W0 b0 3 (.int .i64 a1) := by rw [hW0]; exact (HX0.out.later HK2.out).alloc _
    have hY1 : Boxed W0 (b0 + 1) 62 (.slice none 0 0) := by rw [hW0]; exact h1.alloc _
    have hY2 : Boxed W0 (b0 + 1 + 1) 4 (.bool false) := by rw [hW0]; exact h2.alloc _
    have hY3 : Boxed W0 b 25 (.slice A0 l0.length c0) := by
     rw [hW0, ← hb]; exact Boxed.new _ _ _
    have hml : l0.length ≤ 1000000 := by
     have hvv := HVV.out
     unfold table_Valid.f at hvv
     by_cases h40 : 40 < l0.length
     ·rw [if_pos h40] at hvv; cases hvv
     ·omega
    clear hW0 c1 f1 c2 f2 h1 h2
    have hit := table_maps.iter w (b + 3) b A0 c0 l0 xs HZ.out W0 HR0.out hc0 hml hbe hY3
    refine range_relround (gf := 46) rfl (goes_in Try.func46 (by kernel_rfl) rfl) hit (by omega) (Below.refl _ _) (by rintro x args W ⟨v, rfl, _⟩; rfl) (fun k hk => hk.elim) (fun k hk => by rw [hsz]; omega)
     (fun i W => (xs.take i).find? (isV a1) = none ∧ Boxed W b0 3 (.int .i64 a1) ∧ Boxed W (b0 + 1) 62 (.slice none 0 0) ∧ Boxed W (b0 + 1 + 1) 4 (.bool false) ∧ Below w.heap.size w W)
     (fun c i W => c = .ret ∧ ∃ x v, xs.find? (isV a1) = some x ∧ Boxed W (b0 + 1) 62 v ∧ Kd.R k99 99 W (b + 3) (fun k => b + 3 ≤ k) v x.2 ∧ Boxed W (b0 + 1 + 1) 4 (.bool true) ∧ Below w.heap.size w W)
     ?_ ?_ ⟨rfl, hY0, hY1, hY2, hbe⟩ ?round ?done ?stop
    ·rw [hsz]
     rintro i A B ⟨hf, h0, h1, h2, hB⟩ hk
     exact ⟨hf, hk.boxed h0 ⟨fun h => h, by omega, by omega⟩, hk.boxed h1 ⟨fun h => h, by omega, by omega⟩, hk.boxed h2 ⟨fun h => h, by omega, by omega⟩, hB.trans (hk.below hB.size (by intro k _; exact ⟨fun h => h, by omega, by omega⟩))⟩
    ·rw [hsz]
     rintro c i A B ⟨hc, x, v, hf, h1, hR, h2, hB⟩ hk
     exact ⟨hc, x, v, hf, hk.boxed h1 ⟨fun h => h, by omega, by omega⟩, Kd.R_step hR (fun k hok hlt => hk.block k ⟨fun h => h, by omega, by omega⟩ hlt), hk.boxed h2 ⟨fun h => h, by omega, by omega⟩, hB.trans (hk.below hB.size (by intro k _; exact ⟨fun h => h, by omega, by omega⟩))⟩
    case round =>
     rintro i x args W hx ⟨v, rfl, hRv⟩ hlt ⟨hf, h0, h1, h2, hB⟩
     obtain ⟨Av, cv, rfl⟩ := Kd.R_slice hRv
     rw [hsz] at hlt
     rw [hsz]
     gi_wp2
     refine ⟨Keeps.refl _ _, fun Wb hk hl => ?_⟩
     have h0b := hk.boxed h0 (by omega)
     have h1b := hk.boxed h1 (by omega)
     have h2b := hk.boxed h2 (by omega)
     have hRb := Kd.R_step hRv (fun k hok hlt => hk.block k (by omega) hlt)
     have hBb : Below w.heap.size w Wb := hB.trans (hk.below hB.size (fun k hk' => by omega))
     have c0' := h0b.cell
     have c1 := h1b.cell
     have f1 := h1b.frozen
     have c2 := h2b.cell
     have f2 := h2b.frozen
     clear h0 h1 h2 hRv hB hk
     cases hp : isV a1 x with
     | false =>
      have hpb : (x.1 == a1) = false := hp
      have hf2 := Aside0.mk (find_next hf hx hp)
      clear hf hx hp
      gi_wp2
      exact ⟨Keeps.refl _ _, hf2.out, h0b, h1b, h2b, hBb⟩
     | true =>
      have hpb : (x.1 == a1) = true := hp
      have hf2 := Aside0.mk (find_at hf hx hp)
      clear hf hx hp
      gi_wp2
      have hkk : Keeps (fun k => k = b + 1 ∨ k = b + 1 + 1) Wb ((Wb.setCell ⟨b0 + 1, 0, none⟩ (.slice Av x.2.length cv)).setCell ⟨b0 + 1 + 1, 0, none⟩ (.bool true)) := ((Keeps.refl _ _).setCell (p := ⟨b0 + 1, 0, none⟩) (fun h => by have h' : b0 + 1 = b + 1 ∨ b0 + 1 = b + 1 + 1 := h; omega) _).setCell (p := ⟨b0 + 1 + 1, 0, none⟩) (fun h => by have h' : b0 + 1 + 1 = b + 1 ∨ b0 + 1 + 1 = b + 1 + 1 := h; omega) _
      refine ⟨hkk, rfl, x, _, hf2.out, (h1b.put _).other (by omega) _, ?_, (h2b.other (by omega) _).put _, (hBb.setCell (p := ⟨b0 + 1, 0, none⟩) (by show w.heap.size ≤ b0 + 1; omega) _).setCell (p := ⟨b0 + 1 + 1, 0, none⟩) (by show w.heap.size ≤ b0 + 1 + 1; omega) _⟩
      exact Kd.R_far (Kd.R_far hRb (p := ⟨b0 + 1, 0, none⟩) (fun k hk => by show k ≠ b0 + 1; omega) _) (p := ⟨b0 + 1 + 1, 0, none⟩) (fun k hk => by show k ≠ b0 + 1 + 1; omega) _
    case done =>
     rintro W ⟨hf, h0, h1, h2, hB⟩ hD
     rw [hsz] at hD ⊢
     rw [List.take_length] at hf
     have hh := HH.out
     rw [hf] at hh
     simp only [Option.some.injEq, Prod.mk.injEq] at hh
     obtain ⟨rfl, rfl⟩ := hh
     have c1 := h1.cell
     have f1 := h1.frozen
     have c2 := h2.cell
     have f2 := h2.frozen
     gi_wp2
     obtain ⟨W2, hW⟩ : ∃ W2, (W.setCell ⟨b0 + 1, 0, none⟩ (.slice none 0 0)).setCell ⟨b0 + 1 + 1, 0, none⟩ (.bool false) = W2 := ⟨_, rfl⟩
     rw [hW]
     have k1 : Boxed W2 (b0 + 1) 62 (.slice none 0 0) := by rw [← hW]; exact (h1.put _).other (by omega) _
     have k2 : Boxed W2 (b0 + 1 + 1) 4 (.bool false) := by rw [← hW]; exact (h2.other (by omega) _).put _
     have hbW : Below w.heap.size w W2 := by rw [← hW]; exact (hB.setCell (p := ⟨b0 + 1, 0, none⟩) (by show w.heap.size ≤ b0 + 1; omega) _).setCell (p := ⟨b0 + 1 + 1, 0, none⟩) (by show w.heap.size ≤ b0 + 1 + 1; omega) _
     have hD2 : W2.heap[b + 1]? = some (.deferred (some [])) := by rw [← hW]; exact (Below.heap_setCell _ _ _ _ (by show b + 1 ≠ b0 + 1 + 1; omega)).trans ((Below.heap_setCell _ _ _ _ (by show b + 1 ≠ b0 + 1; omega)).trans hD)
     have hK : Keeps (fun k => k ≠ b + 1) W2 (W2.putObj (b + 1) (.deferred none)) := Keeps.putObj _ _ _ (fun h => h rfl)
     have e1 := (hK.boxed k1 (by omega)).cell
     have e2 := (hK.boxed k2 (by omega)).cell
     refine ⟨by simp, .inl ⟨_, _, rfl, run_takeDeferred (w := W2) hD2, ?_⟩⟩
     exact ⟨.tuple #[.slice none 0 0, .bool false], by simp [results, Try.results26, go_sem, e1, e2], _, rfl, Kd.R_nil _ _ _ _ _, hbW.trans (hK.below hbW.size (fun k hk => by omega))⟩
    case stop =>
     rintro c i W hi ⟨rfl, x, v, hf, h1, hR, h2, hB⟩ hD
     rw [hsz] at hD ⊢
     have hh := HH.out
     rw [hf] at hh
     simp only [Option.some.injEq, Prod.mk.injEq] at hh
     obtain ⟨rfl, rfl⟩ := hh
     have c1 := h1.cell
     have c2 := h2.cell
     gi_wp2
     have hK : Keeps (fun k => k ≠ b + 1) W (W.putObj (b + 1) (.deferred none)) := Keeps.putObj _ _ _ (fun h => h rfl)
     obtain ⟨Av, cv, rfl⟩ := Kd.R_slice hR
     have e1 := (hK.boxed h1 (by omega)).cell
     have e2 := (hK.boxed h2 (by omega)).cell
     refine ⟨by simp, .inl ⟨_, _, rfl, run_takeDeferred (w := W) hD, ?_⟩⟩
     exact ⟨.tuple #[.slice Av x.2.length cv, .bool true], by simp [results, Try.results26, go_sem, e1, e2], _, rfl, Kd.R_mono (Kd.R_lower (Kd.R_step hR (fun k hk hlt => hK.block k (by omega) hlt)) (by omega)) (fun _ _ => trivial), hB.trans (hK.below hB.size (fun k hk => by omega))⟩
end Go.Proofs.Ytlhhcjlcaacfpaa.P
