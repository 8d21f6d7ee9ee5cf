/- The law RouteMatchesReference answers true: its code is walked through, by the proved contracts of what it calls, and the plain equalities with the reference. The law RouteMatchesReference, walked by hand: the innermost loop, over the versions. The law RouteMatchesReference, walked by hand: the loop over the carriers. The law RouteMatchesReference, walked by hand: the loop over the lags. The law RouteMatchesReference, walked by hand: the two outer loops. -/
import Derived.Test.YtmiahmpobpokmaaPx0
import Derived.Test.YtmiahmpobpokmaaQA
import Derived.Test.YtmiahmpobpokmaaPx21
import Derived.Test.YtmiahmpobpokmaaPx9
import Derived.Test.YtmiahmpobpokmaaPx11
import Derived.Test.YtmiahmpobpokmaaPx15
import Derived.Test.YtmiahmpobpokmaaPx19
import Derived.Test.YtmiahmpobpokmaaPx20
import Derived.Test.YtmiahmpobpokmaaPx6
import Derived.Test.YtmiahmpobpokmaaPx8
import Derived.Test.YtmiahmpobpokmaaPx17
import Derived.Test.YtmiahmpobpokmaaPx4
namespace Go.Proofs.Ytmiahmpobpokmaa.V24
open Go.RowKit Go.Proofs.Ytmiahmpobpokmaa.P Go.Proofs.Ytmiahmpobpokmaa.T24 Go.Proofs.YtmiahmpobpokmaaW.PrintWords Go.Proofs.YtmiahmpobpokmaaW.PrintLast Go.Proofs.YtmiahmpobpokmaaW.PrintMore Go.Proofs.YtmiahmpobpokmaaH Go.Proofs.YtmiahmpobpokmaaR
attribute [local go_sem] max2_int min2_int max_two min_two max_three min_three max_four min_four
set_option linter.unusedVariables false
set_option linter.unusedSimpArgs false
/-- A value reads as a list of numbers. -/
def SI (w : World) (v : Value) (l : List Int) : Prop := ∃ A c, v = .slice A l.length c ∧ l.length ≤ c ∧ Kd.C (Kd.int .i64) w A l.length l
/-- A value reads as a list of hops. -/
def SH (w : World) (v : Value) (l : List S40) : Prop := ∃ A c, v = .slice A l.length c ∧ l.length ≤ c ∧ Kd.C k40 w A l.length l
theorem SI.below {w w' : World} {v : Value} {l : List Int} (h : SI w v l) (hb : Below w.heap.size w w') : SI w' v l := by
  obtain ⟨A, c, e, hc, hr⟩ := h
  exact ⟨A, c, e, hc, Kd.C_below hr hb⟩
theorem SH.below {w w' : World} {v : Value} {l : List S40} (h : SH w v l) (hb : Below w.heap.size w w') : SH w' v l := by
  obtain ⟨A, c, e, hc, hr⟩ := h
  exact ⟨A, c, e, hc, Kd.C_below hr hb⟩
theorem SI.of {e base : Nat} {ok : Nat → Prop} {w : World} {v : Value} {l : List Int} (h : Kd.R (Kd.int .i64) e w base ok v l) : SI w v l := Kd.R_reads h
theorem SH.of {e base : Nat} {ok : Nat → Prop} {w : World} {v : Value} {l : List S40} (h : Kd.R k40 e w base ok v l) : SH w v l := Kd.R_reads h
section
variable {Pr : Program} {ops : Array Oper} {rest : List Oper} {o : Oper} {a : Act} {Q : Exit → Act → World → Prop}
/-- A literal of cells, each of which is one word: what it leads to reads as it was laid. -/
theorem lit_any {W : World} (cs : Array Value) (e : TypeId) (n : Nat) (hgd : o.guard = none)
    (hrun : (execOp a.eval o).run Pr W = .ok (.value (.slice (some ⟨W.heap.size, 0, none⟩) n n)) (W.alloc (.cells cs e (0, 0))))
    (h : ∀ ad w1, Below W.heap.size W w1 → (∀ w', Below w1.heap.size w1 w' → ∀ (i : Nat) (u : Value), cs[i]? = some u → w'.cell? (ad.add i) = some u) → wpList Pr ops Q rest (a.put o.dst (.slice (some ad) n n)) w1) : wpList Pr ops Q (o :: rest) a W := by
  refine Kd.event_run hgd hrun (h ⟨W.heap.size, 0, none⟩ _ (below_alloc (Below.refl _ _) _) (fun w' hb i u hu => ?_))
  have hc := blk_cell (blk_new W (.cells cs e (0, 0))) i
  have := pw_cell_below hb (hc.trans hu)
  have e : (⟨W.heap.size, 0, none⟩ : Addr).add i = ⟨W.heap.size, i, none⟩ := by cases i <;> simp [Addr.add]
  rw [e]; exact this
end
theorem SI.take {w : World} {A : Option Addr} {c : Nat} {l : List Int} (h : Kd.C (Kd.int .i64) w A l.length l) (m : Nat) (hm : m ≤ l.length) (hc : l.length ≤ c) : SI w (.slice A m c) (l.take m) := by
  have hl : (l.take m).length = m := by simp; omega
  refine ⟨A, c, by rw [hl], by omega, ?_⟩
  have h2 := Kd.C_take h hm
  exact h2
theorem SH.take {w : World} {A : Option Addr} {c : Nat} {l : List S40} (h : Kd.C k40 w A l.length l) (m : Nat) (hm : m ≤ l.length) (hc : l.length ≤ c) : SH w (.slice A m c) (l.take m) := by
  have hl : (l.take m).length = m := by simp; omega
  refine ⟨A, c, by rw [hl], by omega, ?_⟩
  have h2 := Kd.C_take h hm
  exact h2
/-- The loops that stand in a code, the outermost, from left to right. -/
def loopsOf : Code → List Code
  | .loop c => [c]
  | .seq a b => loopsOf a ++ loopsOf b
  | .block _ c => loopsOf c
  | .scope c => loopsOf c
  | .cond _ a b => loopsOf a ++ loopsOf b
  | _ => []
noncomputable def body1 : Code := (loopsOf (Try.f3.body.getD .skip)).headD .skip
noncomputable def body6 : Code := ((loopsOf (Try.f3.body.getD .skip)).drop 1).headD .skip
noncomputable def body2 : Code := (loopsOf body1).headD .skip
noncomputable def body3 : Code := (loopsOf body2).headD .skip
noncomputable def body4 : Code := (loopsOf body3).headD .skip
noncomputable def body5 : Code := (loopsOf body4).headD .skip
noncomputable def body7 : Code := (loopsOf body6).headD .skip
end Go.Proofs.Ytmiahmpobpokmaa.V24
namespace Go.Proofs.Ytmiahmpobpokmaa.V24
open Go.RowKit Go.Proofs.Ytmiahmpobpokmaa.P Go.Proofs.Ytmiahmpobpokmaa.T24 Go.Proofs.YtmiahmpobpokmaaW.PrintWords Go.Proofs.YtmiahmpobpokmaaW.PrintLast Go.Proofs.YtmiahmpobpokmaaW.PrintMore Go.Proofs.YtmiahmpobpokmaaH Go.Proofs.YtmiahmpobpokmaaR
attribute [local go_sem] max2_int min2_int max_two min_two max_three min_three max_four min_four
set_option linter.unusedVariables false
set_option linter.unusedSimpArgs false
set_option maxHeartbeats 8000000 in
set_option maxRecDepth 1000000 in
theorem loop5 {G0 G1 G2 G3 G4 G5 G6 G7 G8 G9 Ga Gb Gc Gd Ge Gf Gg Gh Gi Gj Gk Gl Gm Gn Go Gp Gq Gr Gs Gt Gv Gx Gz G11 G12 G13 G14 G15 G16 G17 G18 G19 G1a G1b G1c G1d G1e G1f G1g G1h G1i G1j G1k G1l G1m G1n G1o G1p G1q G1r G1s G1t G1u G1v G1w G1x G1y G1z G20 G21 G22 G23 G24 G25 G26 G27 G28 G29 G2a G2b G2c G2d G2e G2f G2g G2h G2i G2j G2k G2l G2m G2n G2o G2p G2q G2r G2s G2t G2u G2v G2w G2x G2y G2z G30 G31 G32 G33 G34 G35 G36 G37 G38 G39 G3a G3b G3c G3d G3e G3f G3g G3h G3i G3j G3k G3l G3m G3n G3o G3p G3q G3r G3s G3t G3u G3v G3w G3x G3y G3z G40 G41 G42 G43 G44 G45 G46 G47 G48 G49 G4a G4b G4c G4d G4e G4f G4g G4h G4i G4j G4k G4l G4m G4n G4o G4p G4q G4r G4s G4t G4u G4v G4w G4x G4y G4z G50 G51 G52 G53 G54 G55 G56 G57 G58 G59 G5a G5b G5c G5d G5e G5f G5g G5h G5i G5j G5k G5l G5m G5n G5o G5p G5q G5r G5s G5t G5u G5v G5w G5x G5y G5z G60 G64 G65 G66 G67 G68 G69 G6a G6b G6c G6d G6e G6f G6g G6h G6i G6j G6k G6l G6m G6n G6o G6p G6q G6r G6s G6t G6u G6v G6w G6x G6y G6z G70 G71 G72 G73 G74 G75 G76 G77 G78 G79 G7a G7b G7c G7d G7e G7f G7g G7h G7i G7j G7k G7l G7m G7n G7o G7p G7q G7r G7s G7t G7u G7v G7w G7x G7y G7z G80 G81 G82 G83 G84 G85 G86 G87 G88 G89 G8a G8b G8c G8d G8e G8f G8g G8h G8i G8j G8k G8l G8m G8n G8o G8p G8q G8r G8s G8t G8u G8v G8w G8x G8y G8z G90 G91 G92 G93 G94 G95 G96 G97 G98 G99 G9a G9b G9c G9d G9e G9f G9g G9h G9i G9j G9k G9l G9m : Value} (Aa Ab : Option Addr) (la lb : List Int) (ca cb : Nat) (m d : Int) (ad : Addr) (wl : World) (Q0 : Exit → Act → World → Prop) (hA : Aside0 (la.length ≤ ca ∧ Kd.C (Kd.int .i64) wl Aa la.length la ∧ lb.length ≤ cb ∧ Kd.C (Kd.int .i64) wl Ab lb.length lb)) (hE : Aside0 (∀ w', Below wl.heap.size wl w' → ∀ i : Nat, i < 2 → ∃ x : Int, w'.cell? (ad.add i) = some (.int .i64 x)))
    (hexit : ∀ (Um U1c U1d U1e U1f U1g U1h U1i U1j U1k U63 U64 U65 U66 U67 U68 U69 U6a U6b U6c U6d U6e U6f U6g U6h U6i U6j U6k U6l U6m U6n U6o U6p U6q U6r U6s U6t U6u U6v U6w U6x U6y U6z U70 U71 U72 U73 U74 U75 U76 U77 U78 U79 U7a U7b : Value) (w' : World), Below wl.heap.size wl w' → Q0 (.exit 8) ⟨List.toArray (G0::G1::G2::G3::G4::G5::G6::G7::G8::G9::Ga::Gb::Gc::Gd::Ge::Gf::Gg::Gh::Gi::Gj::Gk::Gl::Um::Gn::Go::Gp::Gq::Gr::Gs::Gt::(.slice Aa la.length ca)::Gv::(.slice Ab lb.length cb)::Gx::(.int .i64 m)::Gz::(.int .i64 d)::G11::G12::G13::G14::G15::G16::G17::G18::G19::G1a::G1b::U1c::U1d::U1e::U1f::U1g::U1h::U1i::U1j::U1k::G1l::G1m::G1n::G1o::G1p::G1q::G1r::G1s::G1t::G1u::G1v::G1w::G1x::G1y::G1z::G20::G21::G22::G23::G24::G25::G26::G27::G28::G29::G2a::G2b::G2c::G2d::G2e::G2f::G2g::G2h::G2i::G2j::G2k::G2l::G2m::G2n::G2o::G2p::G2q::G2r::G2s::G2t::G2u::G2v::G2w::G2x::G2y::G2z::G30::G31::G32::G33::G34::G35::G36::G37::G38::G39::G3a::G3b::G3c::G3d::G3e::G3f::G3g::G3h::G3i::G3j::G3k::G3l::G3m::G3n::G3o::G3p::G3q::G3r::G3s::G3t::G3u::G3v::G3w::G3x::G3y::G3z::G40::G41::G42::G43::G44::G45::G46::G47::G48::G49::G4a::G4b::G4c::G4d::G4e::G4f::G4g::G4h::G4i::G4j::G4k::G4l::G4m::G4n::G4o::G4p::G4q::G4r::G4s::G4t::G4u::G4v::G4w::G4x::G4y::G4z::G50::G51::G52::G53::G54::G55::G56::G57::G58::G59::G5a::G5b::G5c::G5d::G5e::G5f::G5g::G5h::G5i::G5j::G5k::G5l::G5m::G5n::G5o::G5p::G5q::G5r::G5s::G5t::G5u::G5v::G5w::G5x::G5y::G5z::G60::(.slice (some ad) 2 2)::(.int .i64 2)::U63::U64::U65::U66::U67::U68::U69::U6a::U6b::U6c::U6d::U6e::U6f::U6g::U6h::U6i::U6j::U6k::U6l::U6m::U6n::U6o::U6p::U6q::U6r::U6s::U6t::U6u::U6v::U6w::U6x::U6y::U6z::U70::U71::U72::U73::U74::U75::U76::U77::U78::U79::U7a::U7b::G7c::G7d::G7e::G7f::G7g::G7h::G7i::G7j::G7k::G7l::G7m::G7n::G7o::G7p::G7q::G7r::G7s::G7t::G7u::G7v::G7w::G7x::G7y::G7z::G80::G81::G82::G83::G84::G85::G86::G87::G88::G89::G8a::G8b::G8c::G8d::G8e::G8f::G8g::G8h::G8i::G8j::G8k::G8l::G8m::G8n::G8o::G8p::G8q::G8r::G8s::G8t::G8u::G8v::G8w::G8x::G8y::G8z::G90::G91::G92::G93::G94::G95::G96::G97::G98::G99::G9a::G9b::G9c::G9d::G9e::G9f::G9g::G9h::G9i::G9j::G9k::G9l::G9m::[]), []⟩ w') :
    Code.wp Try.prog (Code.loop body5) Q0 ⟨List.toArray (G0::G1::G2::G3::G4::G5::G6::G7::G8::G9::Ga::Gb::Gc::Gd::Ge::Gf::Gg::Gh::Gi::Gj::Gk::Gl::Gm::Gn::Go::Gp::Gq::Gr::Gs::Gt::(.slice Aa la.length ca)::Gv::(.slice Ab lb.length cb)::Gx::(.int .i64 m)::Gz::(.int .i64 d)::G11::G12::G13::G14::G15::G16::G17::G18::G19::G1a::G1b::G1c::G1d::G1e::G1f::G1g::G1h::G1i::G1j::G1k::G1l::G1m::G1n::G1o::G1p::G1q::G1r::G1s::G1t::G1u::G1v::G1w::G1x::G1y::G1z::G20::G21::G22::G23::G24::G25::G26::G27::G28::G29::G2a::G2b::G2c::G2d::G2e::G2f::G2g::G2h::G2i::G2j::G2k::G2l::G2m::G2n::G2o::G2p::G2q::G2r::G2s::G2t::G2u::G2v::G2w::G2x::G2y::G2z::G30::G31::G32::G33::G34::G35::G36::G37::G38::G39::G3a::G3b::G3c::G3d::G3e::G3f::G3g::G3h::G3i::G3j::G3k::G3l::G3m::G3n::G3o::G3p::G3q::G3r::G3s::G3t::G3u::G3v::G3w::G3x::G3y::G3z::G40::G41::G42::G43::G44::G45::G46::G47::G48::G49::G4a::G4b::G4c::G4d::G4e::G4f::G4g::G4h::G4i::G4j::G4k::G4l::G4m::G4n::G4o::G4p::G4q::G4r::G4s::G4t::G4u::G4v::G4w::G4x::G4y::G4z::G50::G51::G52::G53::G54::G55::G56::G57::G58::G59::G5a::G5b::G5c::G5d::G5e::G5f::G5g::G5h::G5i::G5j::G5k::G5l::G5m::G5n::G5o::G5p::G5q::G5r::G5s::G5t::G5u::G5v::G5w::G5x::G5y::G5z::G60::(.slice (some ad) 2 2)::(.int .i64 2)::(.int .i64 0)::G64::G65::G66::G67::G68::G69::G6a::G6b::G6c::G6d::G6e::G6f::G6g::G6h::G6i::G6j::G6k::G6l::G6m::G6n::G6o::G6p::G6q::G6r::G6s::G6t::G6u::G6v::G6w::G6x::G6y::G6z::G70::G71::G72::G73::G74::G75::G76::G77::G78::G79::G7a::G7b::G7c::G7d::G7e::G7f::G7g::G7h::G7i::G7j::G7k::G7l::G7m::G7n::G7o::G7p::G7q::G7r::G7s::G7t::G7u::G7v::G7w::G7x::G7y::G7z::G80::G81::G82::G83::G84::G85::G86::G87::G88::G89::G8a::G8b::G8c::G8d::G8e::G8f::G8g::G8h::G8i::G8j::G8k::G8l::G8m::G8n::G8o::G8p::G8q::G8r::G8s::G8t::G8u::G8v::G8w::G8x::G8y::G8z::G90::G91::G92::G93::G94::G95::G96::G97::G98::G99::G9a::G9b::G9c::G9d::G9e::G9f::G9g::G9h::G9i::G9j::G9k::G9l::G9m::[]), []⟩ wl := by
  conv => arg 2; arg 1; whnf
  go_loopw [219] (fun v w' => ∃ i : Nat, v = .int .i64 (i : Int) ∧ i ≤ 2 ∧ Aside0 (Below wl.heap.size wl w')) (fun v _ => (2 - intOf v).toNat)
  case atStart => exact ⟨0, rfl, by omega, ⟨Below.refl _ _⟩⟩
  case round =>
    obtain ⟨i, rfl, hi, HB1⟩ := hrel
    by_cases hlt : i < 2
    · clear hexit
      obtain ⟨v, hx⟩ := hE.out _ HB1.out i hlt
      obtain ⟨x1, x2, x3, x4, hd1, hd2⟩ := ref_decides la lb m d v
      obtain ⟨kd, hkd⟩ := hd2
      have hd3 : dialtoneref24_Decide.f kd la lb m d v = some (x1, x2, x3, x4) := hkd kd (Nat.le_refl _)
      clear hkd
      have hAr : Aside0 (la.length ≤ ca ∧ Kd.C (Kd.int .i64) wr Aa la.length la ∧ lb.length ≤ cb ∧ Kd.C (Kd.int .i64) wr Ab lb.length lb) := ⟨hA.out.1, Kd.C_below hA.out.2.1 HB1.out, hA.out.2.2.1, Kd.C_below hA.out.2.2.2 HB1.out⟩
      go_wp2_with (first
        | (go_at_call 22; refine (route_Decide.calls _ _ la _ _ lb m d v x1 x2 x3 x4 _ (Kd.C_below hAr.out.2.1 (by repeat (first | exact HB1.out | exact Below.refl _ _ | apply pw_below_drewN | apply below_drew1))) hAr.out.1 (Kd.C_below hAr.out.2.2.2 (by repeat (first | exact HB1.out | exact Below.refl _ _ | apply pw_below_drewN | apply below_drew1))) hAr.out.2.2.1 hd1).mono ?_; rintro e w11 ⟨rfl, hb11⟩; have HB11 := Aside0.mk (below_step (w := wr) (by repeat (first | exact hb11 | exact Below.refl _ _ | apply pw_below_drewN | apply below_drew1)) hb11); clear hb11)
        | (go_at_call 23; refine (dialtoneref24_Decide.calls kd _ _ la _ _ lb m d v x1 x2 x3 x4 _ (Kd.C_below hAr.out.2.1 (by repeat (first | exact HB11.out | exact Below.refl _ _ | apply pw_below_drewN | apply below_drew1))) hAr.out.1 (Kd.C_below hAr.out.2.2.2 (by repeat (first | exact HB11.out | exact Below.refl _ _ | apply pw_below_drewN | apply below_drew1))) hAr.out.2.2.1 hd3).mono ?_; rintro e w12 ⟨rfl, hb12⟩; have HB12 := Aside0.mk (below_step HB11.out hb12); clear hb12))
      go_roundw
      case rel => exact ⟨i + 1, by go_num, by omega, ⟨below_step HB1.out (by repeat (first | exact HB12.out | exact Below.refl _ _ | apply pw_below_drewN | apply below_drew1))⟩⟩
      case measure => simp [intOf]; omega
    · have hx : i = 2 := by omega
      subst hx
      go_wp2
      exact (by repeat (first | exact HB1.out | exact Below.refl _ _ | apply pw_below_drewN | apply below_drew1))

end Go.Proofs.Ytmiahmpobpokmaa.V24
namespace Go.Proofs.Ytmiahmpobpokmaa.V24
open Go.RowKit Go.Proofs.Ytmiahmpobpokmaa.P Go.Proofs.Ytmiahmpobpokmaa.T24 Go.Proofs.YtmiahmpobpokmaaW.PrintWords Go.Proofs.YtmiahmpobpokmaaW.PrintLast Go.Proofs.YtmiahmpobpokmaaW.PrintMore Go.Proofs.YtmiahmpobpokmaaH Go.Proofs.YtmiahmpobpokmaaR
attribute [local go_sem] max2_int min2_int max_two min_two max_three min_three max_four min_four
set_option linter.unusedVariables false
set_option linter.unusedSimpArgs false
set_option maxHeartbeats 8000000 in
set_option maxRecDepth 1000000 in
theorem loop4 {G0 G1 G2 G3 G4 G5 G6 G7 G8 Ga Gb Gc Gd Ge Gf Gg Gh Gi Gj Gk Gl Gm Gn Go Gp Gq Gr Gs Gt Gv Gx Gz G10 G11 G12 G13 G14 G15 G16 G17 G18 G19 G1a G1b G1c G1d G1e G1f G1g G1h G1i G1j G1k G1l G1m G1n G1o G1p G1q G1r G1s G1t G1u G1v G1w G1x G1y G1z G20 G21 G22 G23 G24 G25 G26 G27 G28 G29 G2a G2b G2c G2d G2e G2f G2g G2h G2i G2j G2k G2l G2m G2n G2o G2p G2q G2r G2s G2t G2u G2v G2w G2x G2y G2z G30 G31 G32 G33 G34 G35 G36 G37 G38 G39 G3a G3b G3c G3d G3e G3f G3g G3h G3i G3j G3k G3l G3m G3n G3o G3p G3q G3r G3s G3t G3u G3v G3w G3x G3y G3z G40 G41 G42 G43 G47 G48 G49 G4a G4b G4c G4d G4e G4f G4g G4h G4i G4j G4k G4l G4m G4n G4o G4p G4q G4r G4s G4t G4u G4v G4w G4x G4y G4z G50 G51 G52 G53 G54 G55 G56 G57 G58 G59 G5a G5b G5c G5d G5e G5f G5g G5h G5i G5j G5k G5l G5m G5n G5o G5p G5q G5r G5s G5t G5u G5v G5w G5x G5y G5z G60 G61 G62 G63 G64 G65 G66 G67 G68 G69 G6a G6b G6c G6d G6e G6f G6g G6h G6i G6j G6k G6l G6m G6n G6o G6p G6q G6r G6s G6t G6u G6v G6w G6x G6y G6z G70 G71 G72 G73 G74 G75 G76 G77 G78 G79 G7a G7b G7c G7d G7e G7f G7g G7h G7i G7j G7k G7l G7m G7n G7o G7p G7q G7r G7s G7t G7u G7v G7w G7x G7y G7z G80 G81 G82 G83 G84 G85 G86 G87 G88 G89 G8a G8b G8c G8d G8e G8f G8g G8h G8i G8j G8k G8l G8m G8n G8o G8p G8q G8r G8s G8t G8u G8v G8w G8x G8y G8z G90 G91 G92 G93 G94 G95 G96 G97 G98 G99 G9a G9b G9c G9d G9e G9f G9g G9h G9i G9j G9k G9l G9m : Value} (Aa Ab : Option Addr) (la lb : List Int) (ca cb : Nat) (m u ru : Int) (ad : Addr) (wl : World) (Q0 : Exit → Act → World → Prop) (hA : Aside0 (la.length ≤ ca ∧ Kd.C (Kd.int .i64) wl Aa la.length la ∧ lb.length ≤ cb ∧ Kd.C (Kd.int .i64) wl Ab lb.length lb)) (hpu : dialtonelaw24_pick.f u 13 = some ru) (hE : Aside0 (∀ w', Below wl.heap.size wl w' → ∀ i : Nat, i < 2 → ∃ x : Int, w'.cell? (ad.add i) = some (.int .i64 x)))
    (hexit : ∀ (Um U10 U11 U12 U13 U14 U15 U16 U17 U18 U19 U1a U1c U1d U1e U1f U1g U1h U1i U1j U1k U46 U47 U48 U49 U4a U4b U4c U4d U4e U4f U4g U4h U4i U4j U4k U4l U4m U4n U4o U4p U4q U4r U4s U4t U4u U4v U4w U4x U4y U4z U50 U51 U52 U53 U54 U55 U56 U57 U58 U59 U5a U5b U5c U5d U5e U5f U5g U5h U5i U5j U5k U5l U5m U5n U5o U5p U5q U5r U5s U5t U5u U5v U5w U5x U5y U5z U60 U61 U62 U63 U64 U65 U66 U67 U68 U69 U6a U6b U6c U6d U6e U6f U6g U6h U6i U6j U6k U6l U6m U6n U6o U6p U6q U6r U6s U6t U6u U6v U6w U6x U6y U6z U70 U71 U72 U73 U74 U75 U76 U77 U78 U79 U7a U7b U7c : Value) (w' : World), Below wl.heap.size wl w' → Q0 (.exit 6) ⟨List.toArray (G0::G1::G2::G3::G4::G5::G6::G7::G8::(.int .i64 u)::Ga::Gb::Gc::Gd::Ge::Gf::Gg::Gh::Gi::Gj::Gk::Gl::Um::Gn::Go::Gp::Gq::Gr::Gs::Gt::(.slice Aa la.length ca)::Gv::(.slice Ab lb.length cb)::Gx::(.int .i64 m)::Gz::U10::U11::U12::U13::U14::U15::U16::U17::U18::U19::U1a::G1b::U1c::U1d::U1e::U1f::U1g::U1h::U1i::U1j::U1k::G1l::G1m::G1n::G1o::G1p::G1q::G1r::G1s::G1t::G1u::G1v::G1w::G1x::G1y::G1z::G20::G21::G22::G23::G24::G25::G26::G27::G28::G29::G2a::G2b::G2c::G2d::G2e::G2f::G2g::G2h::G2i::G2j::G2k::G2l::G2m::G2n::G2o::G2p::G2q::G2r::G2s::G2t::G2u::G2v::G2w::G2x::G2y::G2z::G30::G31::G32::G33::G34::G35::G36::G37::G38::G39::G3a::G3b::G3c::G3d::G3e::G3f::G3g::G3h::G3i::G3j::G3k::G3l::G3m::G3n::G3o::G3p::G3q::G3r::G3s::G3t::G3u::G3v::G3w::G3x::G3y::G3z::G40::G41::G42::G43::(.slice (some ad) 2 2)::(.int .i64 2)::U46::U47::U48::U49::U4a::U4b::U4c::U4d::U4e::U4f::U4g::U4h::U4i::U4j::U4k::U4l::U4m::U4n::U4o::U4p::U4q::U4r::U4s::U4t::U4u::U4v::U4w::U4x::U4y::U4z::U50::U51::U52::U53::U54::U55::U56::U57::U58::U59::U5a::U5b::U5c::U5d::U5e::U5f::U5g::U5h::U5i::U5j::U5k::U5l::U5m::U5n::U5o::U5p::U5q::U5r::U5s::U5t::U5u::U5v::U5w::U5x::U5y::U5z::U60::U61::U62::U63::U64::U65::U66::U67::U68::U69::U6a::U6b::U6c::U6d::U6e::U6f::U6g::U6h::U6i::U6j::U6k::U6l::U6m::U6n::U6o::U6p::U6q::U6r::U6s::U6t::U6u::U6v::U6w::U6x::U6y::U6z::U70::U71::U72::U73::U74::U75::U76::U77::U78::U79::U7a::U7b::U7c::G7d::G7e::G7f::G7g::G7h::G7i::G7j::G7k::G7l::G7m::G7n::G7o::G7p::G7q::G7r::G7s::G7t::G7u::G7v::G7w::G7x::G7y::G7z::G80::G81::G82::G83::G84::G85::G86::G87::G88::G89::G8a::G8b::G8c::G8d::G8e::G8f::G8g::G8h::G8i::G8j::G8k::G8l::G8m::G8n::G8o::G8p::G8q::G8r::G8s::G8t::G8u::G8v::G8w::G8x::G8y::G8z::G90::G91::G92::G93::G94::G95::G96::G97::G98::G99::G9a::G9b::G9c::G9d::G9e::G9f::G9g::G9h::G9i::G9j::G9k::G9l::G9m::[]), []⟩ w') :
    Code.wp Try.prog (Code.loop body4) Q0 ⟨List.toArray (G0::G1::G2::G3::G4::G5::G6::G7::G8::(.int .i64 u)::Ga::Gb::Gc::Gd::Ge::Gf::Gg::Gh::Gi::Gj::Gk::Gl::Gm::Gn::Go::Gp::Gq::Gr::Gs::Gt::(.slice Aa la.length ca)::Gv::(.slice Ab lb.length cb)::Gx::(.int .i64 m)::Gz::G10::G11::G12::G13::G14::G15::G16::G17::G18::G19::G1a::G1b::G1c::G1d::G1e::G1f::G1g::G1h::G1i::G1j::G1k::G1l::G1m::G1n::G1o::G1p::G1q::G1r::G1s::G1t::G1u::G1v::G1w::G1x::G1y::G1z::G20::G21::G22::G23::G24::G25::G26::G27::G28::G29::G2a::G2b::G2c::G2d::G2e::G2f::G2g::G2h::G2i::G2j::G2k::G2l::G2m::G2n::G2o::G2p::G2q::G2r::G2s::G2t::G2u::G2v::G2w::G2x::G2y::G2z::G30::G31::G32::G33::G34::G35::G36::G37::G38::G39::G3a::G3b::G3c::G3d::G3e::G3f::G3g::G3h::G3i::G3j::G3k::G3l::G3m::G3n::G3o::G3p::G3q::G3r::G3s::G3t::G3u::G3v::G3w::G3x::G3y::G3z::G40::G41::G42::G43::(.slice (some ad) 2 2)::(.int .i64 2)::(.int .i64 0)::G47::G48::G49::G4a::G4b::G4c::G4d::G4e::G4f::G4g::G4h::G4i::G4j::G4k::G4l::G4m::G4n::G4o::G4p::G4q::G4r::G4s::G4t::G4u::G4v::G4w::G4x::G4y::G4z::G50::G51::G52::G53::G54::G55::G56::G57::G58::G59::G5a::G5b::G5c::G5d::G5e::G5f::G5g::G5h::G5i::G5j::G5k::G5l::G5m::G5n::G5o::G5p::G5q::G5r::G5s::G5t::G5u::G5v::G5w::G5x::G5y::G5z::G60::G61::G62::G63::G64::G65::G66::G67::G68::G69::G6a::G6b::G6c::G6d::G6e::G6f::G6g::G6h::G6i::G6j::G6k::G6l::G6m::G6n::G6o::G6p::G6q::G6r::G6s::G6t::G6u::G6v::G6w::G6x::G6y::G6z::G70::G71::G72::G73::G74::G75::G76::G77::G78::G79::G7a::G7b::G7c::G7d::G7e::G7f::G7g::G7h::G7i::G7j::G7k::G7l::G7m::G7n::G7o::G7p::G7q::G7r::G7s::G7t::G7u::G7v::G7w::G7x::G7y::G7z::G80::G81::G82::G83::G84::G85::G86::G87::G88::G89::G8a::G8b::G8c::G8d::G8e::G8f::G8g::G8h::G8i::G8j::G8k::G8l::G8m::G8n::G8o::G8p::G8q::G8r::G8s::G8t::G8u::G8v::G8w::G8x::G8y::G8z::G90::G91::G92::G93::G94::G95::G96::G97::G98::G99::G9a::G9b::G9c::G9d::G9e::G9f::G9g::G9h::G9i::G9j::G9k::G9l::G9m::[]), []⟩ wl := by
  conv => arg 2; arg 1; whnf
  go_loopw [150] (fun v w' => ∃ i : Nat, v = .int .i64 (i : Int) ∧ i ≤ 2 ∧ Aside0 (Below wl.heap.size wl w')) (fun v _ => (2 - intOf v).toNat)
  case atStart => exact ⟨0, rfl, by omega, ⟨Below.refl _ _⟩⟩
  case round =>
    obtain ⟨i, rfl, hi, HB1⟩ := hrel
    by_cases hlt : i < 2
    · clear hexit
      obtain ⟨d, hx⟩ := hE.out _ HB1.out i hlt
      obtain ⟨p, en, s, ⟨kp, hkp⟩, ⟨kq, hkq⟩, hp12, -⟩ := ref_path la lb m d
      have hp1 : route_Path.f kp la lb m d = some (p, en, s) := hkp kp (Nat.le_refl _)
      have hp2 : dialtoneref24_Path.f kq la lb m d = some (p, en, s) := hkq kq (Nat.le_refl _)
      clear hkp hkq
      obtain ⟨q, g, ⟨kl, hkl⟩, ⟨kn, hkn⟩, hq8⟩ := ref_learn la lb m d
      have hq1 : route_Learn.f kl la lb m d = some (q, g) := hkl kl (Nat.le_refl _)
      have hq2 : dialtoneref24_Learn.f kn la lb m d = some (q, g) := hkn kn (Nat.le_refl _)
      clear hkl hkn
      obtain ⟨ks, hks⟩ := ref_same p (by omega)
      have hs1 : dialtoneref24_Same.f ks p p = some true := hks ks (Nat.le_refl _)
      obtain ⟨ki, hki⟩ := ref_ints q (by omega)
      have hi1 : dialtoneref24_Ints.f ki q q = some true := hki ki (Nat.le_refl _)
      clear hks hki hp12 hq8
      have hAr : Aside0 (la.length ≤ ca ∧ Kd.C (Kd.int .i64) wr Aa la.length la ∧ lb.length ≤ cb ∧ Kd.C (Kd.int .i64) wr Ab lb.length lb) := ⟨hA.out.1, Kd.C_below hA.out.2.1 HB1.out, hA.out.2.2.1, Kd.C_below hA.out.2.2.2 HB1.out⟩
      have HX0 := Aside0.mk (Below.refl wr.heap.size wr)
      go_wp2_with (first
        | (go_at_call 16; refine (route_Path.calls kp _ _ la _ _ lb m d p en s _ (Kd.C_below hAr.out.2.1 (by repeat (first | exact HX0.out | exact Below.refl _ _ | apply pw_below_drewN | apply below_drew1))) hAr.out.1 (Kd.C_below hAr.out.2.2.2 (by repeat (first | exact HX0.out | exact Below.refl _ _ | apply pw_below_drewN | apply below_drew1))) hAr.out.2.2.1 hp1).mono ?_; rintro e w11 ⟨v1, rfl, hov1, hb11⟩; obtain ⟨Av1, cv1, rfl, hcv1, hrv1⟩ := Kd.R_reads hov1; have HCv1 := Aside0.mk (And.intro hcv1 hrv1); have HX1 := Aside0.mk (below_step (w := wr) (by repeat (first | exact HX0.out | exact Below.refl _ _ | apply pw_below_drewN | apply below_drew1)) hb11); clear hb11; clear hov1 hcv1 hrv1)
        | (go_at_call 17; refine (dialtoneref24_Path.calls kq _ _ la _ _ lb m d p en s _ (Kd.C_below hAr.out.2.1 (by repeat (first | exact HX1.out | exact Below.refl _ _ | apply pw_below_drewN | apply below_drew1))) hAr.out.1 (Kd.C_below hAr.out.2.2.2 (by repeat (first | exact HX1.out | exact Below.refl _ _ | apply pw_below_drewN | apply below_drew1))) hAr.out.2.2.1 hp2).mono ?_; rintro e w12 ⟨v2, rfl, hov2, hb12⟩; obtain ⟨Av2, cv2, rfl, hcv2, hrv2⟩ := Kd.R_reads hov2; have HCv2 := Aside0.mk (And.intro hcv2 hrv2); have HX2 := Aside0.mk (below_step (w := wr) (by repeat (first | exact HX1.out | exact Below.refl _ _ | apply pw_below_drewN | apply below_drew1)) hb12); have n_ := Aside0.mk (And.intro HCv1.out.1 (Kd.C_below HCv1.out.2 (by repeat (first | exact hb12 | exact Below.refl _ _ | apply pw_below_drewN | apply below_drew1)))); clear HCv1; have HCv1 := n_; clear n_; clear hb12; clear hov2 hcv2 hrv2)
        | (go_at_call 18; refine (route_Learn.calls kl _ _ la _ _ lb m d q g _ (Kd.C_below hAr.out.2.1 (by repeat (first | exact HX2.out | exact Below.refl _ _ | apply pw_below_drewN | apply below_drew1))) hAr.out.1 (Kd.C_below hAr.out.2.2.2 (by repeat (first | exact HX2.out | exact Below.refl _ _ | apply pw_below_drewN | apply below_drew1))) hAr.out.2.2.1 hq1).mono ?_; rintro e w13 ⟨v3, rfl, hov3, hb13⟩; obtain ⟨Av3, cv3, rfl, hcv3, hrv3⟩ := Kd.R_reads hov3; have HCv3 := Aside0.mk (And.intro hcv3 hrv3); have HX3 := Aside0.mk (below_step (w := wr) (by repeat (first | exact HX2.out | exact Below.refl _ _ | apply pw_below_drewN | apply below_drew1)) hb13); have n_ := Aside0.mk (And.intro HCv1.out.1 (Kd.C_below HCv1.out.2 (by repeat (first | exact hb13 | exact Below.refl _ _ | apply pw_below_drewN | apply below_drew1)))); clear HCv1; have HCv1 := n_; clear n_; have n_ := Aside0.mk (And.intro HCv2.out.1 (Kd.C_below HCv2.out.2 (by repeat (first | exact hb13 | exact Below.refl _ _ | apply pw_below_drewN | apply below_drew1)))); clear HCv2; have HCv2 := n_; clear n_; clear hb13; clear hov3 hcv3 hrv3)
        | (go_at_call 19; refine (dialtoneref24_Learn.calls kn _ _ la _ _ lb m d q g _ (Kd.C_below hAr.out.2.1 (by repeat (first | exact HX3.out | exact Below.refl _ _ | apply pw_below_drewN | apply below_drew1))) hAr.out.1 (Kd.C_below hAr.out.2.2.2 (by repeat (first | exact HX3.out | exact Below.refl _ _ | apply pw_below_drewN | apply below_drew1))) hAr.out.2.2.1 hq2).mono ?_; rintro e w14 ⟨v4, rfl, hov4, hb14⟩; obtain ⟨Av4, cv4, rfl, hcv4, hrv4⟩ := Kd.R_reads hov4; have HCv4 := Aside0.mk (And.intro hcv4 hrv4); have HX4 := Aside0.mk (below_step (w := wr) (by repeat (first | exact HX3.out | exact Below.refl _ _ | apply pw_below_drewN | apply below_drew1)) hb14); have n_ := Aside0.mk (And.intro HCv1.out.1 (Kd.C_below HCv1.out.2 (by repeat (first | exact hb14 | exact Below.refl _ _ | apply pw_below_drewN | apply below_drew1)))); clear HCv1; have HCv1 := n_; clear n_; have n_ := Aside0.mk (And.intro HCv2.out.1 (Kd.C_below HCv2.out.2 (by repeat (first | exact hb14 | exact Below.refl _ _ | apply pw_below_drewN | apply below_drew1)))); clear HCv2; have HCv2 := n_; clear n_; have n_ := Aside0.mk (And.intro HCv3.out.1 (Kd.C_below HCv3.out.2 (by repeat (first | exact hb14 | exact Below.refl _ _ | apply pw_below_drewN | apply below_drew1)))); clear HCv3; have HCv3 := n_; clear n_; clear hb14; clear hov4 hcv4 hrv4)
        | (go_at_call 20; refine (dialtoneref24_Same.calls ks _ _ p _ _ p true _ (Kd.C_below HCv1.out.2 (by repeat (first | exact HX4.out | exact Below.refl _ _ | apply pw_below_drewN | apply below_drew1))) HCv1.out.1 (Kd.C_below HCv2.out.2 (by repeat (first | exact HX4.out | exact Below.refl _ _ | apply pw_below_drewN | apply below_drew1))) HCv2.out.1 hs1).mono ?_; rintro e w15 ⟨rfl, n15, rfl⟩)
        | (go_at_call 21; refine (dialtoneref24_Ints.calls ki _ _ q _ _ q true _ (Kd.C_below HCv3.out.2 (by repeat (first | exact HX4.out | exact Below.refl _ _ | apply pw_below_drewN | apply below_drew1))) HCv3.out.1 (Kd.C_below HCv4.out.2 (by repeat (first | exact HX4.out | exact Below.refl _ _ | apply pw_below_drewN | apply below_drew1))) HCv4.out.1 hi1).mono ?_; rintro e w16 ⟨rfl, n16, rfl⟩)
        | (go_at_call 13; refine (dialtonelaw24_pick.calls u 13 ru _ hpu).mono ?_; rintro e w13 ⟨rfl, nv2, rfl⟩)
        | ((with_reducible refine gate_dst (N := 217) rfl ?_); refine lit_any #[.int .i64 u, .int .i64 (wrap64 (ru - 1))] 3 2 rfl ?hr ?_; (case hr => first | (go_simp; done) | (go_simp; rfl)); intro ad17 w17 hb17 hl17))
      have HX5 := Aside0.mk (below_step (w := wr) (by repeat (first | exact HX4.out | exact Below.refl _ _ | apply pw_below_drewN | apply below_drew1)) hb17)
      have hE5 : Aside0 (∀ w', Below w17.heap.size w17 w' → ∀ i : Nat, i < 2 → ∃ x : Int, w'.cell? (ad17.add i) = some (.int .i64 x)) := ⟨by
        intro w' hb i hi
        rcases i with _ | _ | i
        · exact ⟨_, hl17 w' hb 0 _ rfl⟩
        · exact ⟨_, hl17 w' hb 1 _ rfl⟩
        · omega⟩
      clear hb17 hl17
      refine loop5 Aa Ab la lb ca cb m d ad17 w17 _ ⟨hAr.out.1, Kd.C_below hAr.out.2.1 HX5.out, hAr.out.2.2.1, Kd.C_below hAr.out.2.2.2 HX5.out⟩ hE5 ?_
      intro Ym Y1c Y1d Y1e Y1f Y1g Y1h Y1i Y1j Y1k Y63 Y64 Y65 Y66 Y67 Y68 Y69 Y6a Y6b Y6c Y6d Y6e Y6f Y6g Y6h Y6i Y6j Y6k Y6l Y6m Y6n Y6o Y6p Y6q Y6r Y6s Y6t Y6u Y6v Y6w Y6x Y6y Y6z Y70 Y71 Y72 Y73 Y74 Y75 Y76 Y77 Y78 Y79 Y7a Y7b w18 hb18
      go_wp2
      go_roundw
      case rel => exact ⟨i + 1, by go_num, by omega, ⟨below_step HB1.out (below_step HX5.out (by repeat (first | exact hb18 | exact Below.refl _ _ | apply pw_below_drewN | apply below_drew1)))⟩⟩
      case measure => simp [intOf]; omega
    · have hx : i = 2 := by omega
      subst hx
      go_wp2
      exact (by repeat (first | exact HB1.out | exact Below.refl _ _ | apply pw_below_drewN | apply below_drew1))

end Go.Proofs.Ytmiahmpobpokmaa.V24
namespace Go.Proofs.Ytmiahmpobpokmaa.V24
open Go.RowKit Go.Proofs.Ytmiahmpobpokmaa.P Go.Proofs.Ytmiahmpobpokmaa.T24 Go.Proofs.YtmiahmpobpokmaaW.PrintWords Go.Proofs.YtmiahmpobpokmaaW.PrintLast Go.Proofs.YtmiahmpobpokmaaW.PrintMore Go.Proofs.YtmiahmpobpokmaaH Go.Proofs.YtmiahmpobpokmaaR
attribute [local go_sem] max2_int min2_int max_two min_two max_three min_three max_four min_four
set_option linter.unusedVariables false
set_option linter.unusedSimpArgs false
set_option maxHeartbeats 8000000 in
set_option maxRecDepth 1000000 in
theorem loop3 {G0 G1 G2 G3 G4 G5 G6 G7 Ga Gb Gc Gd Ge Gf Gg Gh Gi Gj Gk Gl Gm Gn Go Gp Gq Gr Gs Gt Gv Gx Gy Gz G10 G11 G12 G13 G14 G15 G16 G17 G18 G19 G1a G1b G1c G1d G1e G1f G1g G1h G1i G1j G1k G1l G1m G1n G1o G1p G1q G1r G1s G1t G1u G1v G1w G1x G1y G1z G20 G21 G22 G23 G24 G25 G26 G27 G28 G29 G2a G2b G2c G2d G2e G2f G2g G2h G2i G2j G2k G2l G2m G2n G2o G2p G2q G2r G2s G2t G2u G2v G2w G2x G2y G2z G30 G31 G32 G33 G34 G35 G36 G37 G38 G39 G3a G3b G3c G3d G3e G3f G3g G3h G3i G3j G3k G3l G3p G3q G3r G3s G3t G3u G3v G3w G3x G3y G3z G40 G41 G42 G43 G44 G45 G46 G47 G48 G49 G4a G4b G4c G4d G4e G4f G4g G4h G4i G4j G4k G4l G4m G4n G4o G4p G4q G4r G4s G4t G4u G4v G4w G4x G4y G4z G50 G51 G52 G53 G54 G55 G56 G57 G58 G59 G5a G5b G5c G5d G5e G5f G5g G5h G5i G5j G5k G5l G5m G5n G5o G5p G5q G5r G5s G5t G5u G5v G5w G5x G5y G5z G60 G61 G62 G63 G64 G65 G66 G67 G68 G69 G6a G6b G6c G6d G6e G6f G6g G6h G6i G6j G6k G6l G6m G6n G6o G6p G6q G6r G6s G6t G6u G6v G6w G6x G6y G6z G70 G71 G72 G73 G74 G75 G76 G77 G78 G79 G7a G7b G7c G7d G7e G7f G7g G7h G7i G7j G7k G7l G7m G7n G7o G7p G7q G7r G7s G7t G7u G7v G7w G7x G7y G7z G80 G81 G82 G83 G84 G85 G86 G87 G88 G89 G8a G8b G8c G8d G8e G8f G8g G8h G8i G8j G8k G8l G8m G8n G8o G8p G8q G8r G8s G8t G8u G8v G8w G8x G8y G8z G90 G91 G92 G93 G94 G95 G96 G97 G98 G99 G9a G9b G9c G9d G9e G9f G9g G9h G9i G9j G9k G9l G9m : Value} (Aa Ab : Option Addr) (la lb : List Int) (ca cb : Nat) (c u rc ru : Int) (ad : Addr) (wl : World) (Q0 : Exit → Act → World → Prop) (hA : Aside0 (la.length ≤ ca ∧ Kd.C (Kd.int .i64) wl Aa la.length la ∧ lb.length ≤ cb ∧ Kd.C (Kd.int .i64) wl Ab lb.length lb)) (hpc : dialtonelaw24_pick.f c 8 = some rc) (hpu : dialtonelaw24_pick.f u 13 = some ru) (hE : Aside0 (∀ w', Below wl.heap.size wl w' → ∀ i : Nat, i < 2 → ∃ x : Int, w'.cell? (ad.add i) = some (.int .i64 x)))
    (hexit : ∀ (Um Uy U10 U11 U12 U13 U14 U15 U16 U17 U18 U19 U1a U1c U1d U1e U1f U1g U1h U1i U1j U1k U3o U3p U3q U3r U3s U3t U3u U3v U3w U3x U3y U3z U40 U41 U42 U43 U44 U45 U46 U47 U48 U49 U4a U4b U4c U4d U4e U4f U4g U4h U4i U4j U4k U4l U4m U4n U4o U4p U4q U4r U4s U4t U4u U4v U4w U4x U4y U4z U50 U51 U52 U53 U54 U55 U56 U57 U58 U59 U5a U5b U5c U5d U5e U5f U5g U5h U5i U5j U5k U5l U5m U5n U5o U5p U5q U5r U5s U5t U5u U5v U5w U5x U5y U5z U60 U61 U62 U63 U64 U65 U66 U67 U68 U69 U6a U6b U6c U6d U6e U6f U6g U6h U6i U6j U6k U6l U6m U6n U6o U6p U6q U6r U6s U6t U6u U6v U6w U6x U6y U6z U70 U71 U72 U73 U74 U75 U76 U77 U78 U79 U7a U7b U7c U7d : Value) (w' : World), Below wl.heap.size wl w' → Q0 (.exit 4) ⟨List.toArray (G0::G1::G2::G3::G4::G5::G6::G7::(.int .i64 c)::(.int .i64 u)::Ga::Gb::Gc::Gd::Ge::Gf::Gg::Gh::Gi::Gj::Gk::Gl::Um::Gn::Go::Gp::Gq::Gr::Gs::Gt::(.slice Aa la.length ca)::Gv::(.slice Ab lb.length cb)::Gx::Uy::Gz::U10::U11::U12::U13::U14::U15::U16::U17::U18::U19::U1a::G1b::U1c::U1d::U1e::U1f::U1g::U1h::U1i::U1j::U1k::G1l::G1m::G1n::G1o::G1p::G1q::G1r::G1s::G1t::G1u::G1v::G1w::G1x::G1y::G1z::G20::G21::G22::G23::G24::G25::G26::G27::G28::G29::G2a::G2b::G2c::G2d::G2e::G2f::G2g::G2h::G2i::G2j::G2k::G2l::G2m::G2n::G2o::G2p::G2q::G2r::G2s::G2t::G2u::G2v::G2w::G2x::G2y::G2z::G30::G31::G32::G33::G34::G35::G36::G37::G38::G39::G3a::G3b::G3c::G3d::G3e::G3f::G3g::G3h::G3i::G3j::G3k::G3l::(.slice (some ad) 2 2)::(.int .i64 2)::U3o::U3p::U3q::U3r::U3s::U3t::U3u::U3v::U3w::U3x::U3y::U3z::U40::U41::U42::U43::U44::U45::U46::U47::U48::U49::U4a::U4b::U4c::U4d::U4e::U4f::U4g::U4h::U4i::U4j::U4k::U4l::U4m::U4n::U4o::U4p::U4q::U4r::U4s::U4t::U4u::U4v::U4w::U4x::U4y::U4z::U50::U51::U52::U53::U54::U55::U56::U57::U58::U59::U5a::U5b::U5c::U5d::U5e::U5f::U5g::U5h::U5i::U5j::U5k::U5l::U5m::U5n::U5o::U5p::U5q::U5r::U5s::U5t::U5u::U5v::U5w::U5x::U5y::U5z::U60::U61::U62::U63::U64::U65::U66::U67::U68::U69::U6a::U6b::U6c::U6d::U6e::U6f::U6g::U6h::U6i::U6j::U6k::U6l::U6m::U6n::U6o::U6p::U6q::U6r::U6s::U6t::U6u::U6v::U6w::U6x::U6y::U6z::U70::U71::U72::U73::U74::U75::U76::U77::U78::U79::U7a::U7b::U7c::U7d::G7e::G7f::G7g::G7h::G7i::G7j::G7k::G7l::G7m::G7n::G7o::G7p::G7q::G7r::G7s::G7t::G7u::G7v::G7w::G7x::G7y::G7z::G80::G81::G82::G83::G84::G85::G86::G87::G88::G89::G8a::G8b::G8c::G8d::G8e::G8f::G8g::G8h::G8i::G8j::G8k::G8l::G8m::G8n::G8o::G8p::G8q::G8r::G8s::G8t::G8u::G8v::G8w::G8x::G8y::G8z::G90::G91::G92::G93::G94::G95::G96::G97::G98::G99::G9a::G9b::G9c::G9d::G9e::G9f::G9g::G9h::G9i::G9j::G9k::G9l::G9m::[]), []⟩ w') :
    Code.wp Try.prog (Code.loop body3) Q0 ⟨List.toArray (G0::G1::G2::G3::G4::G5::G6::G7::(.int .i64 c)::(.int .i64 u)::Ga::Gb::Gc::Gd::Ge::Gf::Gg::Gh::Gi::Gj::Gk::Gl::Gm::Gn::Go::Gp::Gq::Gr::Gs::Gt::(.slice Aa la.length ca)::Gv::(.slice Ab lb.length cb)::Gx::Gy::Gz::G10::G11::G12::G13::G14::G15::G16::G17::G18::G19::G1a::G1b::G1c::G1d::G1e::G1f::G1g::G1h::G1i::G1j::G1k::G1l::G1m::G1n::G1o::G1p::G1q::G1r::G1s::G1t::G1u::G1v::G1w::G1x::G1y::G1z::G20::G21::G22::G23::G24::G25::G26::G27::G28::G29::G2a::G2b::G2c::G2d::G2e::G2f::G2g::G2h::G2i::G2j::G2k::G2l::G2m::G2n::G2o::G2p::G2q::G2r::G2s::G2t::G2u::G2v::G2w::G2x::G2y::G2z::G30::G31::G32::G33::G34::G35::G36::G37::G38::G39::G3a::G3b::G3c::G3d::G3e::G3f::G3g::G3h::G3i::G3j::G3k::G3l::(.slice (some ad) 2 2)::(.int .i64 2)::(.int .i64 0)::G3p::G3q::G3r::G3s::G3t::G3u::G3v::G3w::G3x::G3y::G3z::G40::G41::G42::G43::G44::G45::G46::G47::G48::G49::G4a::G4b::G4c::G4d::G4e::G4f::G4g::G4h::G4i::G4j::G4k::G4l::G4m::G4n::G4o::G4p::G4q::G4r::G4s::G4t::G4u::G4v::G4w::G4x::G4y::G4z::G50::G51::G52::G53::G54::G55::G56::G57::G58::G59::G5a::G5b::G5c::G5d::G5e::G5f::G5g::G5h::G5i::G5j::G5k::G5l::G5m::G5n::G5o::G5p::G5q::G5r::G5s::G5t::G5u::G5v::G5w::G5x::G5y::G5z::G60::G61::G62::G63::G64::G65::G66::G67::G68::G69::G6a::G6b::G6c::G6d::G6e::G6f::G6g::G6h::G6i::G6j::G6k::G6l::G6m::G6n::G6o::G6p::G6q::G6r::G6s::G6t::G6u::G6v::G6w::G6x::G6y::G6z::G70::G71::G72::G73::G74::G75::G76::G77::G78::G79::G7a::G7b::G7c::G7d::G7e::G7f::G7g::G7h::G7i::G7j::G7k::G7l::G7m::G7n::G7o::G7p::G7q::G7r::G7s::G7t::G7u::G7v::G7w::G7x::G7y::G7z::G80::G81::G82::G83::G84::G85::G86::G87::G88::G89::G8a::G8b::G8c::G8d::G8e::G8f::G8g::G8h::G8i::G8j::G8k::G8l::G8m::G8n::G8o::G8p::G8q::G8r::G8s::G8t::G8u::G8v::G8w::G8x::G8y::G8z::G90::G91::G92::G93::G94::G95::G96::G97::G98::G99::G9a::G9b::G9c::G9d::G9e::G9f::G9g::G9h::G9i::G9j::G9k::G9l::G9m::[]), []⟩ wl := by
  conv => arg 2; arg 1; whnf
  go_loopw [132] (fun v w' => ∃ i : Nat, v = .int .i64 (i : Int) ∧ i ≤ 2 ∧ Aside0 (Below wl.heap.size wl w')) (fun v _ => (2 - intOf v).toNat)
  case atStart => exact ⟨0, rfl, by omega, ⟨Below.refl _ _⟩⟩
  case round =>
    obtain ⟨i, rfl, hi, HB1⟩ := hrel
    by_cases hlt : i < 2
    · clear hexit
      obtain ⟨m, hx⟩ := hE.out _ HB1.out i hlt
      obtain ⟨kv, hkv⟩ := ref_valid la lb m
      have hv2 : dialtoneref24_Valid.f kv la lb m = some (validB la lb m) := hkv kv (Nat.le_refl _)
      clear hkv
      have hAr : Aside0 (la.length ≤ ca ∧ Kd.C (Kd.int .i64) wr Aa la.length la ∧ lb.length ≤ cb ∧ Kd.C (Kd.int .i64) wr Ab lb.length lb) := ⟨hA.out.1, Kd.C_below hA.out.2.1 HB1.out, hA.out.2.2.1, Kd.C_below hA.out.2.2.2 HB1.out⟩
      go_wp2_with (first
        | (go_at_call 14; refine (route_Valid.calls _ _ la _ _ lb m (validB la lb m) _ (Kd.C_below hAr.out.2.1 (by repeat (first | exact HB1.out | exact Below.refl _ _ | apply pw_below_drewN | apply below_drew1))) hAr.out.1 (Kd.C_below hAr.out.2.2.2 (by repeat (first | exact HB1.out | exact Below.refl _ _ | apply pw_below_drewN | apply below_drew1))) hAr.out.2.2.1 rfl).mono ?_; rintro e w11 ⟨rfl, hb11⟩; have HB11 := Aside0.mk (below_step (w := wr) (by repeat (first | exact hb11 | exact Below.refl _ _ | apply pw_below_drewN | apply below_drew1)) hb11); clear hb11)
        | (go_at_call 15; refine (dialtoneref24_Valid.calls kv _ _ la _ _ lb m (validB la lb m) _ (Kd.C_below hAr.out.2.1 (by repeat (first | exact HB11.out | exact Below.refl _ _ | apply pw_below_drewN | apply below_drew1))) hAr.out.1 (Kd.C_below hAr.out.2.2.2 (by repeat (first | exact HB11.out | exact Below.refl _ _ | apply pw_below_drewN | apply below_drew1))) hAr.out.2.2.1 hv2).mono ?_; rintro e w12 ⟨rfl, nv, rfl⟩)
        | (go_at_call 13; refine (dialtonelaw24_pick.calls c 8 rc _ hpc).mono ?_; rintro e w13 ⟨rfl, nv2, rfl⟩)
        | ((with_reducible refine gate_dst (N := 148) rfl ?_); refine lit_any #[.int .i64 c, .int .i64 rc] 3 2 rfl ?hr ?_; (case hr => first | (go_simp; done) | (go_simp; rfl)); intro ad14 w14 hb14 hl14))
      have HX5 := Aside0.mk (below_step (w := wr) (by repeat (first | exact HB11.out | exact Below.refl _ _ | apply pw_below_drewN | apply below_drew1)) hb14)
      have hE5 : Aside0 (∀ w', Below w14.heap.size w14 w' → ∀ i : Nat, i < 2 → ∃ x : Int, w'.cell? (ad14.add i) = some (.int .i64 x)) := ⟨by
        intro w' hb i hi
        rcases i with _ | _ | i
        · exact ⟨_, hl14 w' hb 0 _ rfl⟩
        · exact ⟨_, hl14 w' hb 1 _ rfl⟩
        · omega⟩
      clear hb14 hl14
      refine loop4 Aa Ab la lb ca cb m u ru ad14 w14 _ ⟨hAr.out.1, Kd.C_below hAr.out.2.1 HX5.out, hAr.out.2.2.1, Kd.C_below hAr.out.2.2.2 HX5.out⟩ hpu hE5 ?_
      intro Ym Y10 Y11 Y12 Y13 Y14 Y15 Y16 Y17 Y18 Y19 Y1a Y1c Y1d Y1e Y1f Y1g Y1h Y1i Y1j Y1k Y46 Y47 Y48 Y49 Y4a Y4b Y4c Y4d Y4e Y4f Y4g Y4h Y4i Y4j Y4k Y4l Y4m Y4n Y4o Y4p Y4q Y4r Y4s Y4t Y4u Y4v Y4w Y4x Y4y Y4z Y50 Y51 Y52 Y53 Y54 Y55 Y56 Y57 Y58 Y59 Y5a Y5b Y5c Y5d Y5e Y5f Y5g Y5h Y5i Y5j Y5k Y5l Y5m Y5n Y5o Y5p Y5q Y5r Y5s Y5t Y5u Y5v Y5w Y5x Y5y Y5z Y60 Y61 Y62 Y63 Y64 Y65 Y66 Y67 Y68 Y69 Y6a Y6b Y6c Y6d Y6e Y6f Y6g Y6h Y6i Y6j Y6k Y6l Y6m Y6n Y6o Y6p Y6q Y6r Y6s Y6t Y6u Y6v Y6w Y6x Y6y Y6z Y70 Y71 Y72 Y73 Y74 Y75 Y76 Y77 Y78 Y79 Y7a Y7b Y7c w18 hb18
      go_wp2
      go_roundw
      case rel => exact ⟨i + 1, by go_num, by omega, ⟨below_step HB1.out (below_step HX5.out (by repeat (first | exact hb18 | exact Below.refl _ _ | apply pw_below_drewN | apply below_drew1)))⟩⟩
      case measure => simp [intOf]; omega
    · have hx : i = 2 := by omega
      subst hx
      go_wp2
      exact (by repeat (first | exact HB1.out | exact Below.refl _ _ | apply pw_below_drewN | apply below_drew1))

end Go.Proofs.Ytmiahmpobpokmaa.V24
namespace Go.Proofs.Ytmiahmpobpokmaa.V24
open Go.RowKit Go.Proofs.Ytmiahmpobpokmaa.P Go.Proofs.Ytmiahmpobpokmaa.T24 Go.Proofs.YtmiahmpobpokmaaW.PrintWords Go.Proofs.YtmiahmpobpokmaaW.PrintLast Go.Proofs.YtmiahmpobpokmaaW.PrintMore Go.Proofs.YtmiahmpobpokmaaH Go.Proofs.YtmiahmpobpokmaaR
attribute [local go_sem] max2_int min2_int max_two min_two max_three min_three max_four min_four
set_option linter.unusedVariables false
set_option linter.unusedSimpArgs false
set_option maxHeartbeats 8000000 in
set_option maxRecDepth 1000000 in
theorem loop2 {G0 G1 G3 G4 G5 G6 G7 Ga Gb Gc Gd Ge Gf Gg Gh Gi Gj Gk Gl Gm Gn Go Gp Gr Gs Gt Gv Gw Gx Gy Gz G10 G11 G12 G13 G14 G15 G16 G17 G18 G19 G1a G1b G1c G1d G1e G1f G1g G1h G1i G1j G1k G1l G1m G1n G1o G1p G1q G1r G1s G1t G1u G1v G1w G1x G1y G1z G20 G21 G22 G23 G24 G25 G26 G27 G28 G29 G2a G2b G2c G2d G2e G2f G2g G2h G2i G2j G2k G2l G2m G2n G2o G2p G2q G2r G2s G2t G2u G2v G2w G2x G2y G2z G30 G31 G32 G33 G34 G35 G36 G37 G38 G39 G3a G3b G3c G3d G3h G3i G3j G3k G3l G3m G3n G3o G3p G3q G3r G3s G3t G3u G3v G3w G3x G3y G3z G40 G41 G42 G43 G44 G45 G46 G47 G48 G49 G4a G4b G4c G4d G4e G4f G4g G4h G4i G4j G4k G4l G4m G4n G4o G4p G4q G4r G4s G4t G4u G4v G4w G4x G4y G4z G50 G51 G52 G53 G54 G55 G56 G57 G58 G59 G5a G5b G5c G5d G5e G5f G5g G5h G5i G5j G5k G5l G5m G5n G5o G5p G5q G5r G5s G5t G5u G5v G5w G5x G5y G5z G60 G61 G62 G63 G64 G65 G66 G67 G68 G69 G6a G6b G6c G6d G6e G6f G6g G6h G6i G6j G6k G6l G6m G6n G6o G6p G6q G6r G6s G6t G6u G6v G6w G6x G6y G6z G70 G71 G72 G73 G74 G75 G76 G77 G78 G79 G7a G7b G7c G7d G7e G7f G7g G7h G7i G7j G7k G7l G7m G7n G7o G7p G7q G7r G7s G7t G7u G7v G7w G7x G7y G7z G80 G81 G82 G83 G84 G85 G86 G87 G88 G89 G8a G8b G8c G8d G8e G8f G8g G8h G8i G8j G8k G8l G8m G8n G8o G8p G8q G8r G8s G8t G8u G8v G8w G8x G8y G8z G90 G91 G92 G93 G94 G95 G96 G97 G98 G99 G9a G9b G9c G9d G9e G9f G9g G9h G9i G9j G9k G9l G9m : Value} (Aa : Option Addr) (la : List Int) (ca : Nat) (c u rc ru l lag : Int) (ad : Addr) (wl : World) (Q0 : Exit → Act → World → Prop) (hA : Aside0 (la.length ≤ ca ∧ Kd.C (Kd.int .i64) wl Aa la.length la)) (hpc : dialtonelaw24_pick.f c 8 = some rc) (hpu : dialtonelaw24_pick.f u 13 = some ru) (hE : Aside0 (∀ w', Below wl.heap.size wl w' → ∀ i : Nat, i < 3 → ∃ A cc, ∃ ll : List Int, w'.cell? (ad.add i) = some (.slice A ll.length cc) ∧ ll.length ≤ cc ∧ Kd.C (Kd.int .i64) w' A ll.length ll))
    (hexit : ∀ (Um Uw Uy U10 U11 U12 U13 U14 U15 U16 U17 U18 U19 U1a U1c U1d U1e U1f U1g U1h U1i U1j U1k U3g U3h U3i U3j U3k U3l U3m U3n U3o U3p U3q U3r U3s U3t U3u U3v U3w U3x U3y U3z U40 U41 U42 U43 U44 U45 U46 U47 U48 U49 U4a U4b U4c U4d U4e U4f U4g U4h U4i U4j U4k U4l U4m U4n U4o U4p U4q U4r U4s U4t U4u U4v U4w U4x U4y U4z U50 U51 U52 U53 U54 U55 U56 U57 U58 U59 U5a U5b U5c U5d U5e U5f U5g U5h U5i U5j U5k U5l U5m U5n U5o U5p U5q U5r U5s U5t U5u U5v U5w U5x U5y U5z U60 U61 U62 U63 U64 U65 U66 U67 U68 U69 U6a U6b U6c U6d U6e U6f U6g U6h U6i U6j U6k U6l U6m U6n U6o U6p U6q U6r U6s U6t U6u U6v U6w U6x U6y U6z U70 U71 U72 U73 U74 U75 U76 U77 U78 U79 U7a U7b U7c U7d U7e : Value) (w' : World), Below wl.heap.size wl w' → Q0 (.exit 2) ⟨List.toArray (G0::G1::(.int .i64 lag)::G3::G4::G5::G6::G7::(.int .i64 c)::(.int .i64 u)::Ga::Gb::Gc::Gd::Ge::Gf::Gg::Gh::Gi::Gj::Gk::Gl::Um::Gn::Go::Gp::(.int .i64 l)::Gr::Gs::Gt::(.slice Aa la.length ca)::Gv::Uw::Gx::Uy::Gz::U10::U11::U12::U13::U14::U15::U16::U17::U18::U19::U1a::G1b::U1c::U1d::U1e::U1f::U1g::U1h::U1i::U1j::U1k::G1l::G1m::G1n::G1o::G1p::G1q::G1r::G1s::G1t::G1u::G1v::G1w::G1x::G1y::G1z::G20::G21::G22::G23::G24::G25::G26::G27::G28::G29::G2a::G2b::G2c::G2d::G2e::G2f::G2g::G2h::G2i::G2j::G2k::G2l::G2m::G2n::G2o::G2p::G2q::G2r::G2s::G2t::G2u::G2v::G2w::G2x::G2y::G2z::G30::G31::G32::G33::G34::G35::G36::G37::G38::G39::G3a::G3b::G3c::G3d::(.slice (some ad) 3 3)::(.int .i64 3)::U3g::U3h::U3i::U3j::U3k::U3l::U3m::U3n::U3o::U3p::U3q::U3r::U3s::U3t::U3u::U3v::U3w::U3x::U3y::U3z::U40::U41::U42::U43::U44::U45::U46::U47::U48::U49::U4a::U4b::U4c::U4d::U4e::U4f::U4g::U4h::U4i::U4j::U4k::U4l::U4m::U4n::U4o::U4p::U4q::U4r::U4s::U4t::U4u::U4v::U4w::U4x::U4y::U4z::U50::U51::U52::U53::U54::U55::U56::U57::U58::U59::U5a::U5b::U5c::U5d::U5e::U5f::U5g::U5h::U5i::U5j::U5k::U5l::U5m::U5n::U5o::U5p::U5q::U5r::U5s::U5t::U5u::U5v::U5w::U5x::U5y::U5z::U60::U61::U62::U63::U64::U65::U66::U67::U68::U69::U6a::U6b::U6c::U6d::U6e::U6f::U6g::U6h::U6i::U6j::U6k::U6l::U6m::U6n::U6o::U6p::U6q::U6r::U6s::U6t::U6u::U6v::U6w::U6x::U6y::U6z::U70::U71::U72::U73::U74::U75::U76::U77::U78::U79::U7a::U7b::U7c::U7d::U7e::G7f::G7g::G7h::G7i::G7j::G7k::G7l::G7m::G7n::G7o::G7p::G7q::G7r::G7s::G7t::G7u::G7v::G7w::G7x::G7y::G7z::G80::G81::G82::G83::G84::G85::G86::G87::G88::G89::G8a::G8b::G8c::G8d::G8e::G8f::G8g::G8h::G8i::G8j::G8k::G8l::G8m::G8n::G8o::G8p::G8q::G8r::G8s::G8t::G8u::G8v::G8w::G8x::G8y::G8z::G90::G91::G92::G93::G94::G95::G96::G97::G98::G99::G9a::G9b::G9c::G9d::G9e::G9f::G9g::G9h::G9i::G9j::G9k::G9l::G9m::[]), []⟩ w') :
    Code.wp Try.prog (Code.loop body2) Q0 ⟨List.toArray (G0::G1::(.int .i64 lag)::G3::G4::G5::G6::G7::(.int .i64 c)::(.int .i64 u)::Ga::Gb::Gc::Gd::Ge::Gf::Gg::Gh::Gi::Gj::Gk::Gl::Gm::Gn::Go::Gp::(.int .i64 l)::Gr::Gs::Gt::(.slice Aa la.length ca)::Gv::Gw::Gx::Gy::Gz::G10::G11::G12::G13::G14::G15::G16::G17::G18::G19::G1a::G1b::G1c::G1d::G1e::G1f::G1g::G1h::G1i::G1j::G1k::G1l::G1m::G1n::G1o::G1p::G1q::G1r::G1s::G1t::G1u::G1v::G1w::G1x::G1y::G1z::G20::G21::G22::G23::G24::G25::G26::G27::G28::G29::G2a::G2b::G2c::G2d::G2e::G2f::G2g::G2h::G2i::G2j::G2k::G2l::G2m::G2n::G2o::G2p::G2q::G2r::G2s::G2t::G2u::G2v::G2w::G2x::G2y::G2z::G30::G31::G32::G33::G34::G35::G36::G37::G38::G39::G3a::G3b::G3c::G3d::(.slice (some ad) 3 3)::(.int .i64 3)::(.int .i64 0)::G3h::G3i::G3j::G3k::G3l::G3m::G3n::G3o::G3p::G3q::G3r::G3s::G3t::G3u::G3v::G3w::G3x::G3y::G3z::G40::G41::G42::G43::G44::G45::G46::G47::G48::G49::G4a::G4b::G4c::G4d::G4e::G4f::G4g::G4h::G4i::G4j::G4k::G4l::G4m::G4n::G4o::G4p::G4q::G4r::G4s::G4t::G4u::G4v::G4w::G4x::G4y::G4z::G50::G51::G52::G53::G54::G55::G56::G57::G58::G59::G5a::G5b::G5c::G5d::G5e::G5f::G5g::G5h::G5i::G5j::G5k::G5l::G5m::G5n::G5o::G5p::G5q::G5r::G5s::G5t::G5u::G5v::G5w::G5x::G5y::G5z::G60::G61::G62::G63::G64::G65::G66::G67::G68::G69::G6a::G6b::G6c::G6d::G6e::G6f::G6g::G6h::G6i::G6j::G6k::G6l::G6m::G6n::G6o::G6p::G6q::G6r::G6s::G6t::G6u::G6v::G6w::G6x::G6y::G6z::G70::G71::G72::G73::G74::G75::G76::G77::G78::G79::G7a::G7b::G7c::G7d::G7e::G7f::G7g::G7h::G7i::G7j::G7k::G7l::G7m::G7n::G7o::G7p::G7q::G7r::G7s::G7t::G7u::G7v::G7w::G7x::G7y::G7z::G80::G81::G82::G83::G84::G85::G86::G87::G88::G89::G8a::G8b::G8c::G8d::G8e::G8f::G8g::G8h::G8i::G8j::G8k::G8l::G8m::G8n::G8o::G8p::G8q::G8r::G8s::G8t::G8u::G8v::G8w::G8x::G8y::G8z::G90::G91::G92::G93::G94::G95::G96::G97::G98::G99::G9a::G9b::G9c::G9d::G9e::G9f::G9g::G9h::G9i::G9j::G9k::G9l::G9m::[]), []⟩ wl := by
  conv => arg 2; arg 1; whnf
  go_loopw [124] (fun v w' => ∃ i : Nat, v = .int .i64 (i : Int) ∧ i ≤ 3 ∧ Aside0 (Below wl.heap.size wl w')) (fun v _ => (3 - intOf v).toNat)
  case atStart => exact ⟨0, rfl, by omega, ⟨Below.refl _ _⟩⟩
  case round =>
    obtain ⟨i, rfl, hi, HB1⟩ := hrel
    by_cases hlt : i < 3
    · clear hexit
      obtain ⟨Ab, cb, lb, hx, hcb, hrb⟩ := hE.out _ HB1.out i hlt
      have hAr : Aside0 (la.length ≤ ca ∧ Kd.C (Kd.int .i64) wr Aa la.length la ∧ lb.length ≤ cb ∧ Kd.C (Kd.int .i64) wr Ab lb.length lb) := ⟨hA.out.1, Kd.C_below hA.out.2 HB1.out, hcb, hrb⟩
      clear hcb hrb
      go_wp2_with ((with_reducible refine gate_dst (N := 130) rfl ?_); refine lit_any #[.int .i64 l, .int .i64 lag] 3 2 rfl ?hr ?_; (case hr => first | (go_simp; done) | (go_simp; rfl)); intro ad14 w14 hb14 hl14)
      have hE5 : Aside0 (∀ w', Below w14.heap.size w14 w' → ∀ i : Nat, i < 2 → ∃ x : Int, w'.cell? (ad14.add i) = some (.int .i64 x)) := ⟨by
        intro w' hb i hi
        rcases i with _ | _ | i
        · exact ⟨_, hl14 w' hb 0 _ rfl⟩
        · exact ⟨_, hl14 w' hb 1 _ rfl⟩
        · omega⟩
      have HX5 := Aside0.mk (below_step (w := wr) (by repeat (first | exact hb14 | exact Below.refl _ _ | apply pw_below_drewN | apply below_drew1)) hb14)
      clear hb14 hl14
      refine loop3 Aa Ab la lb ca cb c u rc ru ad14 w14 _ ⟨hAr.out.1, Kd.C_below hAr.out.2.1 HX5.out, hAr.out.2.2.1, Kd.C_below hAr.out.2.2.2 HX5.out⟩ hpc hpu hE5 ?_
      intro Ym Yy Y10 Y11 Y12 Y13 Y14 Y15 Y16 Y17 Y18 Y19 Y1a Y1c Y1d Y1e Y1f Y1g Y1h Y1i Y1j Y1k Y3o Y3p Y3q Y3r Y3s Y3t Y3u Y3v Y3w Y3x Y3y Y3z Y40 Y41 Y42 Y43 Y44 Y45 Y46 Y47 Y48 Y49 Y4a Y4b Y4c Y4d Y4e Y4f Y4g Y4h Y4i Y4j Y4k Y4l Y4m Y4n Y4o Y4p Y4q Y4r Y4s Y4t Y4u Y4v Y4w Y4x Y4y Y4z Y50 Y51 Y52 Y53 Y54 Y55 Y56 Y57 Y58 Y59 Y5a Y5b Y5c Y5d Y5e Y5f Y5g Y5h Y5i Y5j Y5k Y5l Y5m Y5n Y5o Y5p Y5q Y5r Y5s Y5t Y5u Y5v Y5w Y5x Y5y Y5z Y60 Y61 Y62 Y63 Y64 Y65 Y66 Y67 Y68 Y69 Y6a Y6b Y6c Y6d Y6e Y6f Y6g Y6h Y6i Y6j Y6k Y6l Y6m Y6n Y6o Y6p Y6q Y6r Y6s Y6t Y6u Y6v Y6w Y6x Y6y Y6z Y70 Y71 Y72 Y73 Y74 Y75 Y76 Y77 Y78 Y79 Y7a Y7b Y7c Y7d w18 hb18
      go_wp2
      go_roundw
      case rel => exact ⟨i + 1, by go_num, by omega, ⟨below_step HB1.out (below_step HX5.out (by repeat (first | exact hb18 | exact Below.refl _ _ | apply pw_below_drewN | apply below_drew1)))⟩⟩
      case measure => simp [intOf]; omega
    · have hx : i = 3 := by omega
      subst hx
      go_wp2
      exact (by repeat (first | exact HB1.out | exact Below.refl _ _ | apply pw_below_drewN | apply below_drew1))
set_option maxHeartbeats 8000000 in
set_option maxRecDepth 1000000 in
theorem loop1 {G0 G1 G3 G4 G5 G6 Ga Gb Gc Gd Ge Gf Gg Gh Gi Gj Gk Gl Gm Gn Go Gr Gt Gu Gv Gw Gx Gy Gz G10 G11 G12 G13 G14 G15 G16 G17 G18 G19 G1a G1b G1c G1d G1e G1f G1g G1h G1i G1j G1k G1l G1m G1n G1o G1p G1q G1r G1s G1t G1u G1v G1w G1x G1y G1z G20 G21 G22 G23 G24 G25 G26 G27 G28 G29 G2a G2b G2c G2d G2e G2f G2g G2h G2i G2j G2k G2l G2m G2n G2o G2p G2q G2r G2s G2t G2u G2v G2w G2x G2y G2z G30 G31 G32 G33 G34 G38 G39 G3a G3b G3c G3d G3e G3f G3g G3h G3i G3j G3k G3l G3m G3n G3o G3p G3q G3r G3s G3t G3u G3v G3w G3x G3y G3z G40 G41 G42 G43 G44 G45 G46 G47 G48 G49 G4a G4b G4c G4d G4e G4f G4g G4h G4i G4j G4k G4l G4m G4n G4o G4p G4q G4r G4s G4t G4u G4v G4w G4x G4y G4z G50 G51 G52 G53 G54 G55 G56 G57 G58 G59 G5a G5b G5c G5d G5e G5f G5g G5h G5i G5j G5k G5l G5m G5n G5o G5p G5q G5r G5s G5t G5u G5v G5w G5x G5y G5z G60 G61 G62 G63 G64 G65 G66 G67 G68 G69 G6a G6b G6c G6d G6e G6f G6g G6h G6i G6j G6k G6l G6m G6n G6o G6p G6q G6r G6s G6t G6u G6v G6w G6x G6y G6z G70 G71 G72 G73 G74 G75 G76 G77 G78 G79 G7a G7b G7c G7d G7e G7f G7g G7h G7i G7j G7k G7l G7m G7n G7o G7p G7q G7r G7s G7t G7u G7v G7w G7x G7y G7z G80 G81 G82 G83 G84 G85 G86 G87 G88 G89 G8a G8b G8c G8d G8e G8f G8g G8h G8i G8j G8k G8l G8m G8n G8o G8p G8q G8r G8s G8t G8u G8v G8w G8x G8y G8z G90 G91 G92 G93 G94 G95 G96 G97 G98 G99 G9a G9b G9c G9d G9e G9f G9g G9h G9i G9j G9k G9l G9m : Value} (A1 A2 A3 : Option Addr) (l1 l2 l3 : List Int) (n1 n2 n3 c1 c2 c3 : Nat) (c u rc ru l lag : Int) (ad : Addr) (wl : World) (Q0 : Exit → Act → World → Prop) (hA : Aside0 (∀ w', Below wl.heap.size wl w' → n1 = l1.length ∧ n1 ≤ c1 ∧ Kd.C (Kd.int .i64) w' A1 n1 l1 ∧ n2 = l2.length ∧ n2 ≤ c2 ∧ Kd.C (Kd.int .i64) w' A2 n2 l2 ∧ n3 = l3.length ∧ n3 ≤ c3 ∧ Kd.C (Kd.int .i64) w' A3 n3 l3)) (hpc : dialtonelaw24_pick.f c 8 = some rc) (hpu : dialtonelaw24_pick.f u 13 = some ru) (hE : Aside0 (∀ w', Below wl.heap.size wl w' → ∀ i : Nat, i < 3 → ∃ A cc, ∃ ll : List Int, w'.cell? (ad.add i) = some (.slice A ll.length cc) ∧ ll.length ≤ cc ∧ Kd.C (Kd.int .i64) w' A ll.length ll))
    (hexit : ∀ (Um Uu Uw Uy U10 U11 U12 U13 U14 U15 U16 U17 U18 U19 U1a U1c U1d U1e U1f U1g U1h U1i U1j U1k U37 U38 U39 U3a U3b U3c U3d U3e U3f U3g U3h U3i U3j U3k U3l U3m U3n U3o U3p U3q U3r U3s U3t U3u U3v U3w U3x U3y U3z U40 U41 U42 U43 U44 U45 U46 U47 U48 U49 U4a U4b U4c U4d U4e U4f U4g U4h U4i U4j U4k U4l U4m U4n U4o U4p U4q U4r U4s U4t U4u U4v U4w U4x U4y U4z U50 U51 U52 U53 U54 U55 U56 U57 U58 U59 U5a U5b U5c U5d U5e U5f U5g U5h U5i U5j U5k U5l U5m U5n U5o U5p U5q U5r U5s U5t U5u U5v U5w U5x U5y U5z U60 U61 U62 U63 U64 U65 U66 U67 U68 U69 U6a U6b U6c U6d U6e U6f U6g U6h U6i U6j U6k U6l U6m U6n U6o U6p U6q U6r U6s U6t U6u U6v U6w U6x U6y U6z U70 U71 U72 U73 U74 U75 U76 U77 U78 U79 U7a U7b U7c U7d U7e U7f : Value) (w' : World), Below wl.heap.size wl w' → Q0 (.exit 0) ⟨List.toArray (G0::G1::(.int .i64 lag)::G3::G4::G5::G6::(.slice A3 n3 c3)::(.int .i64 c)::(.int .i64 u)::Ga::Gb::Gc::Gd::Ge::Gf::Gg::Gh::Gi::Gj::Gk::Gl::Um::Gn::Go::(.slice A1 n1 c1)::(.int .i64 l)::Gr::(.slice A2 n2 c2)::Gt::Uu::Gv::Uw::Gx::Uy::Gz::U10::U11::U12::U13::U14::U15::U16::U17::U18::U19::U1a::G1b::U1c::U1d::U1e::U1f::U1g::U1h::U1i::U1j::U1k::G1l::G1m::G1n::G1o::G1p::G1q::G1r::G1s::G1t::G1u::G1v::G1w::G1x::G1y::G1z::G20::G21::G22::G23::G24::G25::G26::G27::G28::G29::G2a::G2b::G2c::G2d::G2e::G2f::G2g::G2h::G2i::G2j::G2k::G2l::G2m::G2n::G2o::G2p::G2q::G2r::G2s::G2t::G2u::G2v::G2w::G2x::G2y::G2z::G30::G31::G32::G33::G34::(.slice (some ad) 3 3)::(.int .i64 3)::U37::U38::U39::U3a::U3b::U3c::U3d::U3e::U3f::U3g::U3h::U3i::U3j::U3k::U3l::U3m::U3n::U3o::U3p::U3q::U3r::U3s::U3t::U3u::U3v::U3w::U3x::U3y::U3z::U40::U41::U42::U43::U44::U45::U46::U47::U48::U49::U4a::U4b::U4c::U4d::U4e::U4f::U4g::U4h::U4i::U4j::U4k::U4l::U4m::U4n::U4o::U4p::U4q::U4r::U4s::U4t::U4u::U4v::U4w::U4x::U4y::U4z::U50::U51::U52::U53::U54::U55::U56::U57::U58::U59::U5a::U5b::U5c::U5d::U5e::U5f::U5g::U5h::U5i::U5j::U5k::U5l::U5m::U5n::U5o::U5p::U5q::U5r::U5s::U5t::U5u::U5v::U5w::U5x::U5y::U5z::U60::U61::U62::U63::U64::U65::U66::U67::U68::U69::U6a::U6b::U6c::U6d::U6e::U6f::U6g::U6h::U6i::U6j::U6k::U6l::U6m::U6n::U6o::U6p::U6q::U6r::U6s::U6t::U6u::U6v::U6w::U6x::U6y::U6z::U70::U71::U72::U73::U74::U75::U76::U77::U78::U79::U7a::U7b::U7c::U7d::U7e::U7f::G7g::G7h::G7i::G7j::G7k::G7l::G7m::G7n::G7o::G7p::G7q::G7r::G7s::G7t::G7u::G7v::G7w::G7x::G7y::G7z::G80::G81::G82::G83::G84::G85::G86::G87::G88::G89::G8a::G8b::G8c::G8d::G8e::G8f::G8g::G8h::G8i::G8j::G8k::G8l::G8m::G8n::G8o::G8p::G8q::G8r::G8s::G8t::G8u::G8v::G8w::G8x::G8y::G8z::G90::G91::G92::G93::G94::G95::G96::G97::G98::G99::G9a::G9b::G9c::G9d::G9e::G9f::G9g::G9h::G9i::G9j::G9k::G9l::G9m::[]), []⟩ w') :
    Code.wp Try.prog (Code.loop body1) Q0 ⟨List.toArray (G0::G1::(.int .i64 lag)::G3::G4::G5::G6::(.slice A3 n3 c3)::(.int .i64 c)::(.int .i64 u)::Ga::Gb::Gc::Gd::Ge::Gf::Gg::Gh::Gi::Gj::Gk::Gl::Gm::Gn::Go::(.slice A1 n1 c1)::(.int .i64 l)::Gr::(.slice A2 n2 c2)::Gt::Gu::Gv::Gw::Gx::Gy::Gz::G10::G11::G12::G13::G14::G15::G16::G17::G18::G19::G1a::G1b::G1c::G1d::G1e::G1f::G1g::G1h::G1i::G1j::G1k::G1l::G1m::G1n::G1o::G1p::G1q::G1r::G1s::G1t::G1u::G1v::G1w::G1x::G1y::G1z::G20::G21::G22::G23::G24::G25::G26::G27::G28::G29::G2a::G2b::G2c::G2d::G2e::G2f::G2g::G2h::G2i::G2j::G2k::G2l::G2m::G2n::G2o::G2p::G2q::G2r::G2s::G2t::G2u::G2v::G2w::G2x::G2y::G2z::G30::G31::G32::G33::G34::(.slice (some ad) 3 3)::(.int .i64 3)::(.int .i64 0)::G38::G39::G3a::G3b::G3c::G3d::G3e::G3f::G3g::G3h::G3i::G3j::G3k::G3l::G3m::G3n::G3o::G3p::G3q::G3r::G3s::G3t::G3u::G3v::G3w::G3x::G3y::G3z::G40::G41::G42::G43::G44::G45::G46::G47::G48::G49::G4a::G4b::G4c::G4d::G4e::G4f::G4g::G4h::G4i::G4j::G4k::G4l::G4m::G4n::G4o::G4p::G4q::G4r::G4s::G4t::G4u::G4v::G4w::G4x::G4y::G4z::G50::G51::G52::G53::G54::G55::G56::G57::G58::G59::G5a::G5b::G5c::G5d::G5e::G5f::G5g::G5h::G5i::G5j::G5k::G5l::G5m::G5n::G5o::G5p::G5q::G5r::G5s::G5t::G5u::G5v::G5w::G5x::G5y::G5z::G60::G61::G62::G63::G64::G65::G66::G67::G68::G69::G6a::G6b::G6c::G6d::G6e::G6f::G6g::G6h::G6i::G6j::G6k::G6l::G6m::G6n::G6o::G6p::G6q::G6r::G6s::G6t::G6u::G6v::G6w::G6x::G6y::G6z::G70::G71::G72::G73::G74::G75::G76::G77::G78::G79::G7a::G7b::G7c::G7d::G7e::G7f::G7g::G7h::G7i::G7j::G7k::G7l::G7m::G7n::G7o::G7p::G7q::G7r::G7s::G7t::G7u::G7v::G7w::G7x::G7y::G7z::G80::G81::G82::G83::G84::G85::G86::G87::G88::G89::G8a::G8b::G8c::G8d::G8e::G8f::G8g::G8h::G8i::G8j::G8k::G8l::G8m::G8n::G8o::G8p::G8q::G8r::G8s::G8t::G8u::G8v::G8w::G8x::G8y::G8z::G90::G91::G92::G93::G94::G95::G96::G97::G98::G99::G9a::G9b::G9c::G9d::G9e::G9f::G9g::G9h::G9i::G9j::G9k::G9l::G9m::[]), []⟩ wl := by
  conv => arg 2; arg 1; whnf
  go_loopw [115] (fun v w' => ∃ i : Nat, v = .int .i64 (i : Int) ∧ i ≤ 3 ∧ Aside0 (Below wl.heap.size wl w')) (fun v _ => (3 - intOf v).toNat)
  case atStart => exact ⟨0, rfl, by omega, ⟨Below.refl _ _⟩⟩
  case round =>
    obtain ⟨i, rfl, hi, HB1⟩ := hrel
    by_cases hlt : i < 3
    · clear hexit
      obtain ⟨Aa, ca, la, hx, hca, hra⟩ := hE.out _ HB1.out i hlt
      have hAr : Aside0 (la.length ≤ ca ∧ Kd.C (Kd.int .i64) wr Aa la.length la) := ⟨hca, hra⟩
      clear hca hra
      go_wp2_with ((with_reducible refine gate_dst (N := 122) rfl ?_); refine lit_any #[.slice A1 n1 c1, .slice A2 n2 c2, .slice A3 n3 c3] 22 3 rfl ?hr ?_; (case hr => first | (go_simp; done) | (go_simp; rfl)); intro ad14 w14 hb14 hl14)
      have HX5 := Aside0.mk (below_step (w := wr) (by repeat (first | exact hb14 | exact Below.refl _ _ | apply pw_below_drewN | apply below_drew1)) hb14)
      have HX6 := Aside0.mk (below_step HB1.out HX5.out)
      have hE5 : Aside0 (∀ w', Below w14.heap.size w14 w' → ∀ i : Nat, i < 3 → ∃ A cc, ∃ ll : List Int, w'.cell? (ad14.add i) = some (.slice A ll.length cc) ∧ ll.length ≤ cc ∧ Kd.C (Kd.int .i64) w' A ll.length ll) := ⟨by
        intro w' hb i hi
        obtain ⟨e1, f1, g1, e2, f2, g2, e3, f3, g3⟩ := hA.out w' (below_step HX6.out hb)
        rcases i with _ | _ | _ | i
        · exact ⟨_, c1, l1, hl14 w' hb 0 _ (by rw [← e1]; rfl), by omega, e1 ▸ g1⟩
        · exact ⟨_, c2, l2, hl14 w' hb 1 _ (by rw [← e2]; rfl), by omega, e2 ▸ g2⟩
        · exact ⟨_, c3, l3, hl14 w' hb 2 _ (by rw [← e3]; rfl), by omega, e3 ▸ g3⟩
        · omega⟩
      clear hb14 hl14
      refine loop2 Aa la ca c u rc ru l lag ad14 w14 _ ⟨hAr.out.1, Kd.C_below hAr.out.2 HX5.out⟩ hpc hpu hE5 ?_
      intro Ym Yw Yy Y10 Y11 Y12 Y13 Y14 Y15 Y16 Y17 Y18 Y19 Y1a Y1c Y1d Y1e Y1f Y1g Y1h Y1i Y1j Y1k Y3g Y3h Y3i Y3j Y3k Y3l Y3m Y3n Y3o Y3p Y3q Y3r Y3s Y3t Y3u Y3v Y3w Y3x Y3y Y3z Y40 Y41 Y42 Y43 Y44 Y45 Y46 Y47 Y48 Y49 Y4a Y4b Y4c Y4d Y4e Y4f Y4g Y4h Y4i Y4j Y4k Y4l Y4m Y4n Y4o Y4p Y4q Y4r Y4s Y4t Y4u Y4v Y4w Y4x Y4y Y4z Y50 Y51 Y52 Y53 Y54 Y55 Y56 Y57 Y58 Y59 Y5a Y5b Y5c Y5d Y5e Y5f Y5g Y5h Y5i Y5j Y5k Y5l Y5m Y5n Y5o Y5p Y5q Y5r Y5s Y5t Y5u Y5v Y5w Y5x Y5y Y5z Y60 Y61 Y62 Y63 Y64 Y65 Y66 Y67 Y68 Y69 Y6a Y6b Y6c Y6d Y6e Y6f Y6g Y6h Y6i Y6j Y6k Y6l Y6m Y6n Y6o Y6p Y6q Y6r Y6s Y6t Y6u Y6v Y6w Y6x Y6y Y6z Y70 Y71 Y72 Y73 Y74 Y75 Y76 Y77 Y78 Y79 Y7a Y7b Y7c Y7d Y7e w18 hb18
      go_wp2
      go_roundw
      case rel => exact ⟨i + 1, by go_num, by omega, ⟨below_step HX6.out (by repeat (first | exact hb18 | exact Below.refl _ _ | apply pw_below_drewN | apply below_drew1))⟩⟩
      case measure => simp [intOf]; omega
    · have hx : i = 3 := by omega
      subst hx
      go_wp2
      exact (by repeat (first | exact HB1.out | exact Below.refl _ _ | apply pw_below_drewN | apply below_drew1))

end Go.Proofs.Ytmiahmpobpokmaa.V24
