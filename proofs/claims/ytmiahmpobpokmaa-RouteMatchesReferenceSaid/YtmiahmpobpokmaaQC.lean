/- The law RouteMatchesReference, walked by hand: the loops over the paths. The law RouteMatchesReference, walked by hand: the two branches that change an element. The law RouteMatchesReference, walked by hand: the law itself. -/
import Derived.Test.YtmiahmpobpokmaaPx0
import Derived.Test.YtmiahmpobpokmaaPx10
import Derived.Test.YtmiahmpobpokmaaPx11
import Derived.Test.YtmiahmpobpokmaaPx22
import Derived.Test.YtmiahmpobpokmaaPx23
import Derived.Test.YtmiahmpobpokmaaQB
import Derived.Test.YtmiahmpobpokmaaQA
import Derived.Test.YtmiahmpobpokmaaPx15
import Derived.Test.YtmiahmpobpokmaaPx12
import Derived.Test.YtmiahmpobpokmaaPx19
namespace Go.Proofs.Ytmiahmpobpokmaa.V24
open Go.RowKit Go.Proofs.Ytmiahmpobpokmaa.P Go.Proofs.Ytmiahmpobpokmaa.T24 Go.Proofs.YtmiahmpobpokmaaW.PrintWords Go.Proofs.YtmiahmpobpokmaaW.PrintLast Go.Proofs.YtmiahmpobpokmaaW.PrintMore Go.Proofs.YtmiahmpobpokmaaH Go.Proofs.YtmiahmpobpokmaaR
attribute [local go_sem] max2_int min2_int max_two min_two max_three min_three max_four min_four
set_option linter.unusedVariables false
set_option linter.unusedSimpArgs false
set_option maxHeartbeats 8000000 in
set_option maxRecDepth 1000000 in
theorem loop7 {G0 G1 G2 G3 G4 G5 G6 G7 G8 G9 Ga Gb Gc Gd Ge Gf Gg Gh Gi Gj Gk Gl Gm Gn Go Gp Gq Gr Gs Gt Gu Gv Gw Gx Gy Gz G10 G11 G12 G13 G14 G15 G16 G17 G18 G19 G1a G1b G1c G1d G1e G1f G1g G1h G1i G1j G1k G1l G1m G1n G1o G1p G1q G1s G1t G1u G1v G1w G1x G1y G1z G20 G21 G22 G23 G24 G25 G26 G27 G28 G29 G2a G2b G2c G2d G2e G2f G2g G2h G2i G2j G2k G2l G2m G2n G2o G2p G2q G2r G2s G2t G2u G2v G2w G2x G2y G2z G30 G31 G32 G33 G34 G35 G36 G37 G38 G39 G3a G3b G3c G3d G3e G3f G3g G3h G3i G3j G3k G3l G3m G3n G3o G3p G3q G3r G3s G3t G3u G3v G3w G3x G3y G3z G40 G41 G42 G43 G44 G45 G46 G47 G48 G49 G4a G4b G4c G4d G4e G4f G4g G4h G4i G4j G4k G4l G4m G4n G4o G4p G4q G4r G4s G4t G4u G4v G4w G4x G4y G4z G50 G51 G52 G53 G54 G55 G56 G57 G58 G59 G5a G5b G5c G5d G5e G5f G5g G5h G5i G5j G5k G5l G5m G5n G5o G5p G5q G5r G5s G5t G5u G5v G5w G5x G5y G5z G60 G61 G62 G63 G64 G65 G66 G67 G68 G69 G6a G6b G6c G6d G6e G6f G6g G6h G6i G6j G6k G6l G6m G6n G6o G6p G6q G6r G6s G6t G6u G6v G6w G6x G6y G6z G70 G71 G72 G73 G74 G75 G76 G77 G78 G79 G7a G7b G7c G7d G7e G7f G7g G7h G7i G7j G7k G7l G7m G7n G7o G7p G7q G7r G7s G7t G7u G7v G7w G7x G7y G7z G80 G81 G82 G83 G84 G85 G86 G87 G88 G89 G8a G8b G8c G8d G8e G8f G8g G8h G8i G8j G8k G8l G8m G8n G8o G8p G8q G8r G8s G8t G8u G8v G8w G8x G91 G92 G93 G94 G95 G96 G97 G98 G99 G9a G9b G9c G9d G9e G9f G9g G9h G9i G9j G9k G9l G9m : Value} (Az : Option Addr) (lz : List S40) (cz : Nat) (ad : Addr) (wl : World) (Q0 : Exit → Act → World → Prop) (hZ : Aside0 (lz.length ≤ cz ∧ Kd.C k40 wl Az lz.length lz ∧ lz.length < 1000000)) (hE : Aside0 (∀ w', Below wl.heap.size wl w' → ∀ i : Nat, i < 3 → ∃ A cc, ∃ ll : List Int, w'.cell? (ad.add i) = some (.slice A ll.length cc) ∧ ll.length ≤ cc ∧ Kd.C (Kd.int .i64) w' A ll.length ll))
    (hexit : ∀ (Um U1t U90 U91 U92 U93 U94 U95 U96 U97 U98 U99 U9a U9b U9c U9d U9e U9f U9g U9h U9i U9j U9k : Value) (w' : World), Below wl.heap.size wl w' → Q0 (.exit 12) ⟨List.toArray (G0::G1::G2::G3::G4::G5::G6::G7::G8::G9::Ga::Gb::Gc::Gd::Ge::Gf::Gg::Gh::Gi::Gj::Gk::Gl::Um::Gn::Go::Gp::Gq::Gr::Gs::Gt::Gu::Gv::Gw::Gx::Gy::Gz::G10::G11::G12::G13::G14::G15::G16::G17::G18::G19::G1a::G1b::G1c::G1d::G1e::G1f::G1g::G1h::G1i::G1j::G1k::G1l::G1m::G1n::G1o::G1p::G1q::(.slice Az lz.length cz)::G1s::U1t::G1u::G1v::G1w::G1x::G1y::G1z::G20::G21::G22::G23::G24::G25::G26::G27::G28::G29::G2a::G2b::G2c::G2d::G2e::G2f::G2g::G2h::G2i::G2j::G2k::G2l::G2m::G2n::G2o::G2p::G2q::G2r::G2s::G2t::G2u::G2v::G2w::G2x::G2y::G2z::G30::G31::G32::G33::G34::G35::G36::G37::G38::G39::G3a::G3b::G3c::G3d::G3e::G3f::G3g::G3h::G3i::G3j::G3k::G3l::G3m::G3n::G3o::G3p::G3q::G3r::G3s::G3t::G3u::G3v::G3w::G3x::G3y::G3z::G40::G41::G42::G43::G44::G45::G46::G47::G48::G49::G4a::G4b::G4c::G4d::G4e::G4f::G4g::G4h::G4i::G4j::G4k::G4l::G4m::G4n::G4o::G4p::G4q::G4r::G4s::G4t::G4u::G4v::G4w::G4x::G4y::G4z::G50::G51::G52::G53::G54::G55::G56::G57::G58::G59::G5a::G5b::G5c::G5d::G5e::G5f::G5g::G5h::G5i::G5j::G5k::G5l::G5m::G5n::G5o::G5p::G5q::G5r::G5s::G5t::G5u::G5v::G5w::G5x::G5y::G5z::G60::G61::G62::G63::G64::G65::G66::G67::G68::G69::G6a::G6b::G6c::G6d::G6e::G6f::G6g::G6h::G6i::G6j::G6k::G6l::G6m::G6n::G6o::G6p::G6q::G6r::G6s::G6t::G6u::G6v::G6w::G6x::G6y::G6z::G70::G71::G72::G73::G74::G75::G76::G77::G78::G79::G7a::G7b::G7c::G7d::G7e::G7f::G7g::G7h::G7i::G7j::G7k::G7l::G7m::G7n::G7o::G7p::G7q::G7r::G7s::G7t::G7u::G7v::G7w::G7x::G7y::G7z::G80::G81::G82::G83::G84::G85::G86::G87::G88::G89::G8a::G8b::G8c::G8d::G8e::G8f::G8g::G8h::G8i::G8j::G8k::G8l::G8m::G8n::G8o::G8p::G8q::G8r::G8s::G8t::G8u::G8v::G8w::G8x::(.slice (some ad) 3 3)::(.int .i64 3)::U90::U91::U92::U93::U94::U95::U96::U97::U98::U99::U9a::U9b::U9c::U9d::U9e::U9f::U9g::U9h::U9i::U9j::U9k::G9l::G9m::[]), []⟩ w') :
    Code.wp Try.prog (Code.loop body7) Q0 ⟨List.toArray (G0::G1::G2::G3::G4::G5::G6::G7::G8::G9::Ga::Gb::Gc::Gd::Ge::Gf::Gg::Gh::Gi::Gj::Gk::Gl::Gm::Gn::Go::Gp::Gq::Gr::Gs::Gt::Gu::Gv::Gw::Gx::Gy::Gz::G10::G11::G12::G13::G14::G15::G16::G17::G18::G19::G1a::G1b::G1c::G1d::G1e::G1f::G1g::G1h::G1i::G1j::G1k::G1l::G1m::G1n::G1o::G1p::G1q::(.slice Az lz.length cz)::G1s::G1t::G1u::G1v::G1w::G1x::G1y::G1z::G20::G21::G22::G23::G24::G25::G26::G27::G28::G29::G2a::G2b::G2c::G2d::G2e::G2f::G2g::G2h::G2i::G2j::G2k::G2l::G2m::G2n::G2o::G2p::G2q::G2r::G2s::G2t::G2u::G2v::G2w::G2x::G2y::G2z::G30::G31::G32::G33::G34::G35::G36::G37::G38::G39::G3a::G3b::G3c::G3d::G3e::G3f::G3g::G3h::G3i::G3j::G3k::G3l::G3m::G3n::G3o::G3p::G3q::G3r::G3s::G3t::G3u::G3v::G3w::G3x::G3y::G3z::G40::G41::G42::G43::G44::G45::G46::G47::G48::G49::G4a::G4b::G4c::G4d::G4e::G4f::G4g::G4h::G4i::G4j::G4k::G4l::G4m::G4n::G4o::G4p::G4q::G4r::G4s::G4t::G4u::G4v::G4w::G4x::G4y::G4z::G50::G51::G52::G53::G54::G55::G56::G57::G58::G59::G5a::G5b::G5c::G5d::G5e::G5f::G5g::G5h::G5i::G5j::G5k::G5l::G5m::G5n::G5o::G5p::G5q::G5r::G5s::G5t::G5u::G5v::G5w::G5x::G5y::G5z::G60::G61::G62::G63::G64::G65::G66::G67::G68::G69::G6a::G6b::G6c::G6d::G6e::G6f::G6g::G6h::G6i::G6j::G6k::G6l::G6m::G6n::G6o::G6p::G6q::G6r::G6s::G6t::G6u::G6v::G6w::G6x::G6y::G6z::G70::G71::G72::G73::G74::G75::G76::G77::G78::G79::G7a::G7b::G7c::G7d::G7e::G7f::G7g::G7h::G7i::G7j::G7k::G7l::G7m::G7n::G7o::G7p::G7q::G7r::G7s::G7t::G7u::G7v::G7w::G7x::G7y::G7z::G80::G81::G82::G83::G84::G85::G86::G87::G88::G89::G8a::G8b::G8c::G8d::G8e::G8f::G8g::G8h::G8i::G8j::G8k::G8l::G8m::G8n::G8o::G8p::G8q::G8r::G8s::G8t::G8u::G8v::G8w::G8x::(.slice (some ad) 3 3)::(.int .i64 3)::(.int .i64 0)::G91::G92::G93::G94::G95::G96::G97::G98::G99::G9a::G9b::G9c::G9d::G9e::G9f::G9g::G9h::G9i::G9j::G9k::G9l::G9m::[]), []⟩ wl := by
  conv => arg 2; arg 1; whnf
  go_loopw [324] (fun v w' => ∃ i : Nat, v = .int .i64 (i : Int) ∧ i ≤ 3 ∧ Aside0 (Below wl.heap.size wl w')) (fun v _ => (3 - intOf v).toNat)
  case atStart => exact ⟨0, rfl, by omega, ⟨Below.refl _ _⟩⟩
  case round =>
    obtain ⟨i, rfl, hi, HB1⟩ := hrel
    by_cases hlt : i < 3
    · clear hexit
      obtain ⟨Aa, ca, la, hx, hca, hra⟩ := hE.out _ HB1.out i hlt
      obtain ⟨bl, hb1, kb, hkb⟩ := ref_blame la lz hZ.out.2.2
      have hb2 : dialtoneref24_Blame.f kb la lz = some bl := hkb kb (Nat.le_refl _)
      have hr1 : route_Right.f la lz = some (bl == (-1)) := by unfold route_Right.f; rw [hb1]; rfl
      have hr2 : dialtoneref24_Right.f kb la lz = some (bl == (-1)) := by unfold dialtoneref24_Right.f; rw [hb2]; rfl
      clear hkb
      have hAr : Aside0 (la.length ≤ ca ∧ Kd.C (Kd.int .i64) wr Aa la.length la ∧ lz.length ≤ cz ∧ Kd.C k40 wr Az lz.length lz) := ⟨hca, hra, hZ.out.1, Kd.C_below hZ.out.2.1 HB1.out⟩
      clear hca hra
      have HX0 := Aside0.mk (Below.refl wr.heap.size wr)
      go_wp2_with (first
        | (go_at_call 24; refine (route_Right.calls _ _ la _ _ lz (bl == (-1)) _ (Kd.C_below hAr.out.2.1 (by repeat (first | exact HX0.out | exact Below.refl _ _ | apply pw_below_drewN | apply below_drew1))) hAr.out.1 (Kd.C_below hAr.out.2.2.2 (by repeat (first | exact HX0.out | exact Below.refl _ _ | apply pw_below_drewN | apply below_drew1))) hAr.out.2.2.1 hr1).mono ?_; rintro e w11 ⟨rfl, hb⟩; have HX1 := Aside0.mk (below_step (w := wr) (by repeat (first | exact HX0.out | exact Below.refl _ _ | apply pw_below_drewN | apply below_drew1)) hb); clear hb)
        | (go_at_call 25; refine (dialtoneref24_Right.calls kb _ _ la _ _ lz (bl == (-1)) _ (Kd.C_below hAr.out.2.1 (by repeat (first | exact HX1.out | exact Below.refl _ _ | apply pw_below_drewN | apply below_drew1))) hAr.out.1 (Kd.C_below hAr.out.2.2.2 (by repeat (first | exact HX1.out | exact Below.refl _ _ | apply pw_below_drewN | apply below_drew1))) hAr.out.2.2.1 hr2).mono ?_; rintro e w12 ⟨rfl, hb⟩; have HX2 := Aside0.mk (below_step (w := wr) (by repeat (first | exact HX1.out | exact Below.refl _ _ | apply pw_below_drewN | apply below_drew1)) hb); clear hb)
        | (go_at_call 26; refine (route_Blame.calls _ _ la _ _ lz bl _ (Kd.C_below hAr.out.2.1 (by repeat (first | exact HX2.out | exact Below.refl _ _ | apply pw_below_drewN | apply below_drew1))) hAr.out.1 (Kd.C_below hAr.out.2.2.2 (by repeat (first | exact HX2.out | exact Below.refl _ _ | apply pw_below_drewN | apply below_drew1))) hAr.out.2.2.1 hb1).mono ?_; rintro e w13 ⟨rfl, hb⟩; have HX3 := Aside0.mk (below_step (w := wr) (by repeat (first | exact HX2.out | exact Below.refl _ _ | apply pw_below_drewN | apply below_drew1)) hb); clear hb)
        | (go_at_call 27; refine (dialtoneref24_Blame.calls kb _ _ la _ _ lz bl _ (Kd.C_below hAr.out.2.1 (by repeat (first | exact HX3.out | exact Below.refl _ _ | apply pw_below_drewN | apply below_drew1))) hAr.out.1 (Kd.C_below hAr.out.2.2.2 (by repeat (first | exact HX3.out | exact Below.refl _ _ | apply pw_below_drewN | apply below_drew1))) hAr.out.2.2.1 hb2).mono ?_; rintro e w14 ⟨rfl, hb⟩; have HX4 := Aside0.mk (below_step (w := wr) (by repeat (first | exact HX3.out | exact Below.refl _ _ | apply pw_below_drewN | apply below_drew1)) hb); clear hb))
      go_roundw
      case rel => exact ⟨i + 1, by go_num, by omega, ⟨below_step HB1.out (by repeat (first | exact HX4.out | exact Below.refl _ _ | apply pw_below_drewN | apply below_drew1))⟩⟩
      case measure => simp [intOf]; omega
    · have hx : i = 3 := by omega
      subst hx
      go_wp2
      exact (by repeat (first | exact HB1.out | exact Below.refl _ _ | apply pw_below_drewN | apply below_drew1))
set_option maxHeartbeats 8000000 in
set_option maxRecDepth 1000000 in
theorem loop6 {G0 G1 G2 G3 G4 G5 G7 G8 G9 Ga Gb Gc Gd Ge Gf Gg Gh Gi Gj Gk Gl Gm Gn Gp Gq Gs Gt Gu Gv Gw Gx Gy Gz G10 G11 G12 G13 G14 G15 G16 G17 G18 G19 G1a G1b G1c G1d G1e G1f G1g G1h G1i G1j G1k G1l G1m G1n G1o G1p G1q G1r G1s G1t G1u G1v G1w G1x G1y G1z G20 G21 G22 G23 G24 G25 G26 G27 G28 G29 G2a G2b G2c G2d G2e G2f G2g G2h G2i G2j G2k G2l G2m G2n G2o G2p G2q G2r G2s G2t G2u G2v G2w G2x G2y G2z G30 G31 G32 G33 G34 G35 G36 G37 G38 G39 G3a G3b G3c G3d G3e G3f G3g G3h G3i G3j G3k G3l G3m G3n G3o G3p G3q G3r G3s G3t G3u G3v G3w G3x G3y G3z G40 G41 G42 G43 G44 G45 G46 G47 G48 G49 G4a G4b G4c G4d G4e G4f G4g G4h G4i G4j G4k G4l G4m G4n G4o G4p G4q G4r G4s G4t G4u G4v G4w G4x G4y G4z G50 G51 G52 G53 G54 G55 G56 G57 G58 G59 G5a G5b G5c G5d G5e G5f G5g G5h G5i G5j G5k G5l G5m G5n G5o G5p G5q G5r G5s G5t G5u G5v G5w G5x G5y G5z G60 G61 G62 G63 G64 G65 G66 G67 G68 G69 G6a G6b G6c G6d G6e G6f G6g G6h G6i G6j G6k G6l G6m G6n G6o G6p G6q G6r G6s G6t G6u G6v G6w G6x G6y G6z G70 G71 G72 G73 G74 G75 G76 G77 G78 G79 G7a G7b G7c G7d G7e G7f G7g G7h G7i G7j G7k G7l G7m G7n G7o G7p G7q G7r G7s G7t G7u G7v G7w G7x G7y G7z G80 G81 G82 G83 G84 G85 G86 G87 G88 G89 G8a G8b G8c G8d G8e G8f G8g G8h G8i G8j G8k G8l G8m G8n G8o G8s G8t G8u G8v G8w G8x G8y G8z G90 G91 G92 G93 G94 G95 G96 G97 G98 G99 G9a G9b G9c G9d G9e G9f G9g G9h G9i G9j G9k G9l G9m : Value} (A1 A2 A3 : Option Addr) (l1 l2 l3 : List Int) (n1 n2 n3 c1 c2 c3 : Nat) (ad : Addr) (wl : World) (Q0 : Exit → Act → World → Prop) (hA : Aside0 (∀ w', Below wl.heap.size wl w' → n1 = l1.length ∧ n1 ≤ c1 ∧ Kd.C (Kd.int .i64) w' A1 n1 l1 ∧ n2 = l2.length ∧ n2 ≤ c2 ∧ Kd.C (Kd.int .i64) w' A2 n2 l2 ∧ n3 = l3.length ∧ n3 ≤ c3 ∧ Kd.C (Kd.int .i64) w' A3 n3 l3)) (hE : Aside0 (∀ w', Below wl.heap.size wl w' → ∀ i : Nat, i < 4 → ∃ A cc, ∃ ll : List S40, w'.cell? (ad.add i) = some (.slice A ll.length cc) ∧ ll.length ≤ cc ∧ Kd.C k40 w' A ll.length ll ∧ ll.length < 1000000))
    (hexit : ∀ (Um U1r U1t U8r U8s U8t U8u U8v U8w U8x U8y U8z U90 U91 U92 U93 U94 U95 U96 U97 U98 U99 U9a U9b U9c U9d U9e U9f U9g U9h U9i U9j U9k U9l : Value) (w' : World), Below wl.heap.size wl w' → Q0 (.exit 10) ⟨List.toArray (G0::G1::G2::G3::G4::G5::(.slice A3 n3 c3)::G7::G8::G9::Ga::Gb::Gc::Gd::Ge::Gf::Gg::Gh::Gi::Gj::Gk::Gl::Um::Gn::(.slice A1 n1 c1)::Gp::Gq::(.slice A2 n2 c2)::Gs::Gt::Gu::Gv::Gw::Gx::Gy::Gz::G10::G11::G12::G13::G14::G15::G16::G17::G18::G19::G1a::G1b::G1c::G1d::G1e::G1f::G1g::G1h::G1i::G1j::G1k::G1l::G1m::G1n::G1o::G1p::G1q::U1r::G1s::U1t::G1u::G1v::G1w::G1x::G1y::G1z::G20::G21::G22::G23::G24::G25::G26::G27::G28::G29::G2a::G2b::G2c::G2d::G2e::G2f::G2g::G2h::G2i::G2j::G2k::G2l::G2m::G2n::G2o::G2p::G2q::G2r::G2s::G2t::G2u::G2v::G2w::G2x::G2y::G2z::G30::G31::G32::G33::G34::G35::G36::G37::G38::G39::G3a::G3b::G3c::G3d::G3e::G3f::G3g::G3h::G3i::G3j::G3k::G3l::G3m::G3n::G3o::G3p::G3q::G3r::G3s::G3t::G3u::G3v::G3w::G3x::G3y::G3z::G40::G41::G42::G43::G44::G45::G46::G47::G48::G49::G4a::G4b::G4c::G4d::G4e::G4f::G4g::G4h::G4i::G4j::G4k::G4l::G4m::G4n::G4o::G4p::G4q::G4r::G4s::G4t::G4u::G4v::G4w::G4x::G4y::G4z::G50::G51::G52::G53::G54::G55::G56::G57::G58::G59::G5a::G5b::G5c::G5d::G5e::G5f::G5g::G5h::G5i::G5j::G5k::G5l::G5m::G5n::G5o::G5p::G5q::G5r::G5s::G5t::G5u::G5v::G5w::G5x::G5y::G5z::G60::G61::G62::G63::G64::G65::G66::G67::G68::G69::G6a::G6b::G6c::G6d::G6e::G6f::G6g::G6h::G6i::G6j::G6k::G6l::G6m::G6n::G6o::G6p::G6q::G6r::G6s::G6t::G6u::G6v::G6w::G6x::G6y::G6z::G70::G71::G72::G73::G74::G75::G76::G77::G78::G79::G7a::G7b::G7c::G7d::G7e::G7f::G7g::G7h::G7i::G7j::G7k::G7l::G7m::G7n::G7o::G7p::G7q::G7r::G7s::G7t::G7u::G7v::G7w::G7x::G7y::G7z::G80::G81::G82::G83::G84::G85::G86::G87::G88::G89::G8a::G8b::G8c::G8d::G8e::G8f::G8g::G8h::G8i::G8j::G8k::G8l::G8m::G8n::G8o::(.slice (some ad) 4 4)::(.int .i64 4)::U8r::U8s::U8t::U8u::U8v::U8w::U8x::U8y::U8z::U90::U91::U92::U93::U94::U95::U96::U97::U98::U99::U9a::U9b::U9c::U9d::U9e::U9f::U9g::U9h::U9i::U9j::U9k::U9l::G9m::[]), []⟩ w') :
    Code.wp Try.prog (Code.loop body6) Q0 ⟨List.toArray (G0::G1::G2::G3::G4::G5::(.slice A3 n3 c3)::G7::G8::G9::Ga::Gb::Gc::Gd::Ge::Gf::Gg::Gh::Gi::Gj::Gk::Gl::Gm::Gn::(.slice A1 n1 c1)::Gp::Gq::(.slice A2 n2 c2)::Gs::Gt::Gu::Gv::Gw::Gx::Gy::Gz::G10::G11::G12::G13::G14::G15::G16::G17::G18::G19::G1a::G1b::G1c::G1d::G1e::G1f::G1g::G1h::G1i::G1j::G1k::G1l::G1m::G1n::G1o::G1p::G1q::G1r::G1s::G1t::G1u::G1v::G1w::G1x::G1y::G1z::G20::G21::G22::G23::G24::G25::G26::G27::G28::G29::G2a::G2b::G2c::G2d::G2e::G2f::G2g::G2h::G2i::G2j::G2k::G2l::G2m::G2n::G2o::G2p::G2q::G2r::G2s::G2t::G2u::G2v::G2w::G2x::G2y::G2z::G30::G31::G32::G33::G34::G35::G36::G37::G38::G39::G3a::G3b::G3c::G3d::G3e::G3f::G3g::G3h::G3i::G3j::G3k::G3l::G3m::G3n::G3o::G3p::G3q::G3r::G3s::G3t::G3u::G3v::G3w::G3x::G3y::G3z::G40::G41::G42::G43::G44::G45::G46::G47::G48::G49::G4a::G4b::G4c::G4d::G4e::G4f::G4g::G4h::G4i::G4j::G4k::G4l::G4m::G4n::G4o::G4p::G4q::G4r::G4s::G4t::G4u::G4v::G4w::G4x::G4y::G4z::G50::G51::G52::G53::G54::G55::G56::G57::G58::G59::G5a::G5b::G5c::G5d::G5e::G5f::G5g::G5h::G5i::G5j::G5k::G5l::G5m::G5n::G5o::G5p::G5q::G5r::G5s::G5t::G5u::G5v::G5w::G5x::G5y::G5z::G60::G61::G62::G63::G64::G65::G66::G67::G68::G69::G6a::G6b::G6c::G6d::G6e::G6f::G6g::G6h::G6i::G6j::G6k::G6l::G6m::G6n::G6o::G6p::G6q::G6r::G6s::G6t::G6u::G6v::G6w::G6x::G6y::G6z::G70::G71::G72::G73::G74::G75::G76::G77::G78::G79::G7a::G7b::G7c::G7d::G7e::G7f::G7g::G7h::G7i::G7j::G7k::G7l::G7m::G7n::G7o::G7p::G7q::G7r::G7s::G7t::G7u::G7v::G7w::G7x::G7y::G7z::G80::G81::G82::G83::G84::G85::G86::G87::G88::G89::G8a::G8b::G8c::G8d::G8e::G8f::G8g::G8h::G8i::G8j::G8k::G8l::G8m::G8n::G8o::(.slice (some ad) 4 4)::(.int .i64 4)::(.int .i64 0)::G8s::G8t::G8u::G8v::G8w::G8x::G8y::G8z::G90::G91::G92::G93::G94::G95::G96::G97::G98::G99::G9a::G9b::G9c::G9d::G9e::G9f::G9g::G9h::G9i::G9j::G9k::G9l::G9m::[]), []⟩ wl := by
  conv => arg 2; arg 1; whnf
  go_loopw [315] (fun v w' => ∃ i : Nat, v = .int .i64 (i : Int) ∧ i ≤ 4 ∧ Aside0 (Below wl.heap.size wl w')) (fun v _ => (4 - intOf v).toNat)
  case atStart => exact ⟨0, rfl, by omega, ⟨Below.refl _ _⟩⟩
  case round =>
    obtain ⟨i, rfl, hi, HB1⟩ := hrel
    by_cases hlt : i < 4
    · clear hexit
      obtain ⟨Az, cz, lz, hx, hcz, hrz, hz1⟩ := hE.out _ HB1.out i hlt
      have hAr : Aside0 (lz.length ≤ cz ∧ Kd.C k40 wr Az lz.length lz ∧ lz.length < 1000000) := ⟨hcz, hrz, hz1⟩
      clear hcz hrz hz1
      go_wp2_with ((with_reducible refine gate_dst (N := 322) rfl ?_); refine lit_any #[.slice A1 n1 c1, .slice A2 n2 c2, .slice A3 n3 c3] 22 3 rfl ?hr ?_; (case hr => first | (go_simp; done) | (go_simp; rfl)); intro ad14 w14 hb14 hl14)
      have HX5 := Aside0.mk (below_step (w := wr) (by repeat (first | exact hb14 | exact Below.refl _ _ | apply pw_below_drewN | apply below_drew1)) hb14)
      have HX6 := Aside0.mk (below_step HB1.out HX5.out)
      have hE5 : Aside0 (∀ w', Below w14.heap.size w14 w' → ∀ i : Nat, i < 3 → ∃ A cc, ∃ ll : List Int, w'.cell? (ad14.add i) = some (.slice A ll.length cc) ∧ ll.length ≤ cc ∧ Kd.C (Kd.int .i64) w' A ll.length ll) := ⟨by
        intro w' hb i hi
        obtain ⟨e1, f1, g1, e2, f2, g2, e3, f3, g3⟩ := hA.out w' (below_step HX6.out hb)
        rcases i with _ | _ | _ | i
        · exact ⟨_, c1, l1, hl14 w' hb 0 _ (by rw [← e1]; rfl), by omega, e1 ▸ g1⟩
        · exact ⟨_, c2, l2, hl14 w' hb 1 _ (by rw [← e2]; rfl), by omega, e2 ▸ g2⟩
        · exact ⟨_, c3, l3, hl14 w' hb 2 _ (by rw [← e3]; rfl), by omega, e3 ▸ g3⟩
        · omega⟩
      clear hb14 hl14
      refine loop7 Az lz cz ad14 w14 _ ⟨hAr.out.1, Kd.C_below hAr.out.2.1 HX5.out, hAr.out.2.2⟩ hE5 ?_
      intro Ym Y1t Y90 Y91 Y92 Y93 Y94 Y95 Y96 Y97 Y98 Y99 Y9a Y9b Y9c Y9d Y9e Y9f Y9g Y9h Y9i Y9j Y9k w18 hb18
      go_wp2
      go_roundw
      case rel => exact ⟨i + 1, by go_num, by omega, ⟨below_step HX6.out (by repeat (first | exact hb18 | exact Below.refl _ _ | apply pw_below_drewN | apply below_drew1))⟩⟩
      case measure => simp [intOf]; omega
    · have hx : i = 4 := by omega
      subst hx
      go_wp2
      exact (by repeat (first | exact HB1.out | exact Below.refl _ _ | apply pw_below_drewN | apply below_drew1))

end Go.Proofs.Ytmiahmpobpokmaa.V24
namespace Go.Proofs.Ytmiahmpobpokmaa.V24
open Go.RowKit Go.Proofs.Ytmiahmpobpokmaa.P Go.Proofs.Ytmiahmpobpokmaa.T24 Go.Proofs.YtmiahmpobpokmaaW.PrintWords Go.Proofs.YtmiahmpobpokmaaW.PrintLast Go.Proofs.YtmiahmpobpokmaaW.PrintMore Go.Proofs.YtmiahmpobpokmaaH Go.Proofs.YtmiahmpobpokmaaR
attribute [local go_sem] max2_int min2_int max_two min_two max_three min_three max_four min_four
set_option linter.unusedVariables false
set_option linter.unusedSimpArgs false
/-- The branch on a slot. -/
def branchOn (t : Nat) : Code → Option Code
  | .cond (.tmp s) a b => if s == t then some (.cond (.tmp s) a b) else (branchOn t a).or (branchOn t b)
  | .loop c => branchOn t c
  | .seq a b => (branchOn t a).or (branchOn t b)
  | .block _ c => branchOn t c
  | .scope c => branchOn t c
  | _ => none
noncomputable def cond85 : Code := (branchOn 85 (Try.f3.body.getD .skip)).getD .skip
noncomputable def cond283 : Code := (branchOn 283 (Try.f3.body.getD .skip)).getD .skip
set_option maxHeartbeats 8000000 in
set_option maxRecDepth 1000000 in
theorem branch85 {G0 G1 G2 G3 G6 G7 G8 G9 Ga Gb Gc Gd Ge Gf Gg Gh Gi Gj Gk Gl Gm Gn Go Gp Gq Gt Gu Gv Gw Gx Gy Gz G10 G11 G12 G13 G14 G15 G16 G17 G18 G19 G1a G1b G1c G1d G1e G1f G1g G1h G1i G1j G1k G1l G1m G1n G1o G1p G1q G1r G1s G1t G1u G1v G1w G1x G1y G1z G20 G21 G22 G23 G24 G25 G26 G27 G28 G29 G2a G2b G2c G2e G2f G2g G2h G2i G2j G2k G2l G2m G2n G2o G2p G2q G2r G2s G2t G2u G2v G2w G2x G2y G2z G30 G31 G32 G33 G34 G35 G36 G37 G38 G39 G3a G3b G3c G3d G3e G3f G3g G3h G3i G3j G3k G3l G3m G3n G3o G3p G3q G3r G3s G3t G3u G3v G3w G3x G3y G3z G40 G41 G42 G43 G44 G45 G46 G47 G48 G49 G4a G4b G4c G4d G4e G4f G4g G4h G4i G4j G4k G4l G4m G4n G4o G4p G4q G4r G4s G4t G4u G4v G4w G4x G4y G4z G50 G51 G52 G53 G54 G55 G56 G57 G58 G59 G5a G5b G5c G5d G5e G5f G5g G5h G5i G5j G5k G5l G5m G5n G5o G5p G5q G5r G5s G5t G5u G5v G5w G5x G5y G5z G60 G61 G62 G63 G64 G65 G66 G67 G68 G69 G6a G6b G6c G6d G6e G6f G6g G6h G6i G6j G6k G6l G6m G6n G6o G6p G6q G6r G6s G6t G6u G6v G6w G6x G6y G6z G70 G71 G72 G73 G74 G75 G76 G77 G78 G79 G7a G7b G7c G7d G7e G7f G7g G7h G7i G7j G7k G7l G7m G7n G7o G7p G7q G7r G7s G7t G7u G7v G7w G7x G7y G7z G80 G81 G82 G83 G84 G85 G86 G87 G88 G89 G8a G8b G8c G8d G8e G8f G8g G8h G8i G8j G8k G8l G8m G8n G8o G8p G8q G8r G8s G8t G8u G8v G8w G8x G8y G8z G90 G91 G92 G93 G94 G95 G96 G97 G98 G99 G9a G9b G9c G9d G9e G9f G9g G9h G9i G9j G9k G9l G9m : Value} (go co gk ck2 B1 B2 : Nat) (b : Bool) (h kn : List Int) (n pl ro rk : Int) (w2 : World) (wl : World) (Q0 : Exit → Act → World → Prop) (HOa : Aside0 (Kd.R (Kd.int .i64) 3 wl B1 (fun k => k ≠ gk) (.slice (some ⟨go, 0, none⟩) h.length co) h)) (HOb : Aside0 (Kd.R (Kd.int .i64) 3 wl B2 (fun k => k ≠ go) (.slice (some ⟨gk, 0, none⟩) kn.length ck2) kn)) (HB : Aside0 (Below w2.heap.size w2 wl ∧ w2.heap.size ≤ go ∧ w2.heap.size ≤ gk)) (hpo : dialtonelaw24_pick.f pl (h.length : Int) = some ro) (hpk : dialtonelaw24_pick.f pl (kn.length : Int) = some rk) (q0 : 0 ≤ ro) (q1 : ro < (h.length : Int)) (q2 : 0 ≤ rk) (q3 : rk < (kn.length : Int))
    (hexit : ∀ (U2e U2f U2g U2h U2i U2j U2k U2l U2m U2n U2o U2p U2q U2r : Value) (w' : World), (∃ lo lk : List Int, Aside0 (lo.length = h.length ∧ lk.length = kn.length ∧ Kd.C (Kd.int .i64) w' (some ⟨go, 0, none⟩) lo.length lo ∧ Kd.C (Kd.int .i64) w' (some ⟨gk, 0, none⟩) lk.length lk ∧ lo.length ≤ co ∧ lk.length ≤ ck2 ∧ Below w2.heap.size w2 w')) → Q0 .normal ⟨List.toArray (G0::G1::G2::G3::(.int .i64 n)::(.int .i64 pl)::G6::G7::G8::G9::Ga::Gb::Gc::Gd::Ge::Gf::Gg::Gh::Gi::Gj::Gk::Gl::Gm::Gn::Go::Gp::Gq::(.slice (some ⟨go, 0, none⟩) h.length co)::(.slice (some ⟨gk, 0, none⟩) kn.length ck2)::Gt::Gu::Gv::Gw::Gx::Gy::Gz::G10::G11::G12::G13::G14::G15::G16::G17::G18::G19::G1a::G1b::G1c::G1d::G1e::G1f::G1g::G1h::G1i::G1j::G1k::G1l::G1m::G1n::G1o::G1p::G1q::G1r::G1s::G1t::G1u::G1v::G1w::G1x::G1y::G1z::G20::G21::G22::G23::G24::G25::G26::G27::G28::G29::G2a::G2b::G2c::(.bool b)::U2e::U2f::U2g::U2h::U2i::U2j::U2k::U2l::U2m::U2n::U2o::U2p::U2q::U2r::G2s::G2t::G2u::G2v::G2w::G2x::G2y::G2z::G30::G31::G32::G33::G34::G35::G36::G37::G38::G39::G3a::G3b::G3c::G3d::G3e::G3f::G3g::G3h::G3i::G3j::G3k::G3l::G3m::G3n::G3o::G3p::G3q::G3r::G3s::G3t::G3u::G3v::G3w::G3x::G3y::G3z::G40::G41::G42::G43::G44::G45::G46::G47::G48::G49::G4a::G4b::G4c::G4d::G4e::G4f::G4g::G4h::G4i::G4j::G4k::G4l::G4m::G4n::G4o::G4p::G4q::G4r::G4s::G4t::G4u::G4v::G4w::G4x::G4y::G4z::G50::G51::G52::G53::G54::G55::G56::G57::G58::G59::G5a::G5b::G5c::G5d::G5e::G5f::G5g::G5h::G5i::G5j::G5k::G5l::G5m::G5n::G5o::G5p::G5q::G5r::G5s::G5t::G5u::G5v::G5w::G5x::G5y::G5z::G60::G61::G62::G63::G64::G65::G66::G67::G68::G69::G6a::G6b::G6c::G6d::G6e::G6f::G6g::G6h::G6i::G6j::G6k::G6l::G6m::G6n::G6o::G6p::G6q::G6r::G6s::G6t::G6u::G6v::G6w::G6x::G6y::G6z::G70::G71::G72::G73::G74::G75::G76::G77::G78::G79::G7a::G7b::G7c::G7d::G7e::G7f::G7g::G7h::G7i::G7j::G7k::G7l::G7m::G7n::G7o::G7p::G7q::G7r::G7s::G7t::G7u::G7v::G7w::G7x::G7y::G7z::G80::G81::G82::G83::G84::G85::G86::G87::G88::G89::G8a::G8b::G8c::G8d::G8e::G8f::G8g::G8h::G8i::G8j::G8k::G8l::G8m::G8n::G8o::G8p::G8q::G8r::G8s::G8t::G8u::G8v::G8w::G8x::G8y::G8z::G90::G91::G92::G93::G94::G95::G96::G97::G98::G99::G9a::G9b::G9c::G9d::G9e::G9f::G9g::G9h::G9i::G9j::G9k::G9l::G9m::[]), []⟩ w') :
    Code.wp Try.prog cond85 Q0 ⟨List.toArray (G0::G1::G2::G3::(.int .i64 n)::(.int .i64 pl)::G6::G7::G8::G9::Ga::Gb::Gc::Gd::Ge::Gf::Gg::Gh::Gi::Gj::Gk::Gl::Gm::Gn::Go::Gp::Gq::(.slice (some ⟨go, 0, none⟩) h.length co)::(.slice (some ⟨gk, 0, none⟩) kn.length ck2)::Gt::Gu::Gv::Gw::Gx::Gy::Gz::G10::G11::G12::G13::G14::G15::G16::G17::G18::G19::G1a::G1b::G1c::G1d::G1e::G1f::G1g::G1h::G1i::G1j::G1k::G1l::G1m::G1n::G1o::G1p::G1q::G1r::G1s::G1t::G1u::G1v::G1w::G1x::G1y::G1z::G20::G21::G22::G23::G24::G25::G26::G27::G28::G29::G2a::G2b::G2c::(.bool b)::G2e::G2f::G2g::G2h::G2i::G2j::G2k::G2l::G2m::G2n::G2o::G2p::G2q::G2r::G2s::G2t::G2u::G2v::G2w::G2x::G2y::G2z::G30::G31::G32::G33::G34::G35::G36::G37::G38::G39::G3a::G3b::G3c::G3d::G3e::G3f::G3g::G3h::G3i::G3j::G3k::G3l::G3m::G3n::G3o::G3p::G3q::G3r::G3s::G3t::G3u::G3v::G3w::G3x::G3y::G3z::G40::G41::G42::G43::G44::G45::G46::G47::G48::G49::G4a::G4b::G4c::G4d::G4e::G4f::G4g::G4h::G4i::G4j::G4k::G4l::G4m::G4n::G4o::G4p::G4q::G4r::G4s::G4t::G4u::G4v::G4w::G4x::G4y::G4z::G50::G51::G52::G53::G54::G55::G56::G57::G58::G59::G5a::G5b::G5c::G5d::G5e::G5f::G5g::G5h::G5i::G5j::G5k::G5l::G5m::G5n::G5o::G5p::G5q::G5r::G5s::G5t::G5u::G5v::G5w::G5x::G5y::G5z::G60::G61::G62::G63::G64::G65::G66::G67::G68::G69::G6a::G6b::G6c::G6d::G6e::G6f::G6g::G6h::G6i::G6j::G6k::G6l::G6m::G6n::G6o::G6p::G6q::G6r::G6s::G6t::G6u::G6v::G6w::G6x::G6y::G6z::G70::G71::G72::G73::G74::G75::G76::G77::G78::G79::G7a::G7b::G7c::G7d::G7e::G7f::G7g::G7h::G7i::G7j::G7k::G7l::G7m::G7n::G7o::G7p::G7q::G7r::G7s::G7t::G7u::G7v::G7w::G7x::G7y::G7z::G80::G81::G82::G83::G84::G85::G86::G87::G88::G89::G8a::G8b::G8c::G8d::G8e::G8f::G8g::G8h::G8i::G8j::G8k::G8l::G8m::G8n::G8o::G8p::G8q::G8r::G8s::G8t::G8u::G8v::G8w::G8x::G8y::G8z::G90::G91::G92::G93::G94::G95::G96::G97::G98::G99::G9a::G9b::G9c::G9d::G9e::G9f::G9g::G9h::G9i::G9j::G9k::G9l::G9m::[]), []⟩ wl := by
  conv => arg 2; whnf
  cases b with
  | true =>
    obtain ⟨hx0, hf0⟩ := Kd.R_celln 0 HOa.out ro q0 q1
    go_wp2_with (go_at_call 13; refine (dialtonelaw24_pick.calls pl h.length ro _ hpo).mono ?_; rintro e w7 ⟨rfl, ⟨nd2, rfl⟩⟩)
    refine ⟨h.set ro.toNat n, kn, ⟨by simp, rfl, (Kd.R_reads' (Kd.R_putn (by repeat (first | exact HOa.out | apply Kd.R_drewN)) ro n)).2.2, (Kd.R_reads' (Kd.R_far (p := ⟨go, ro.toNat, none⟩) (by repeat (first | exact HOb.out | apply Kd.R_drewN)) (fun k hk => hk) _)).2.2, by simpa using (Kd.R_reads' HOa.out).2.1, (Kd.R_reads' HOb.out).2.1, ?_⟩⟩
    exact below_set (by repeat (first | exact HB.out.1 | exact Below.refl _ _ | apply pw_below_drewN | apply below_drew1)) (by have := HB.out; omega)
  | false =>
    obtain ⟨hx0, hf0⟩ := Kd.R_celln 0 HOb.out rk q2 q3
    go_wp2_with (go_at_call 13; refine (dialtonelaw24_pick.calls pl kn.length rk _ hpk).mono ?_; rintro e w7 ⟨rfl, ⟨nd2, rfl⟩⟩)
    refine ⟨h, kn.set rk.toNat n, ⟨rfl, by simp, (Kd.R_reads' (Kd.R_far (p := ⟨gk, rk.toNat, none⟩) (by repeat (first | exact HOa.out | apply Kd.R_drewN)) (fun k hk => hk) _)).2.2, (Kd.R_reads' (Kd.R_putn (by repeat (first | exact HOb.out | apply Kd.R_drewN)) rk n)).2.2, (Kd.R_reads' HOa.out).2.1, by simpa using (Kd.R_reads' HOb.out).2.1, ?_⟩⟩
    exact below_set (by repeat (first | exact HB.out.1 | exact Below.refl _ _ | apply pw_below_drewN | apply below_drew1)) (by have := HB.out; omega)
set_option maxHeartbeats 8000000 in
set_option maxRecDepth 1000000 in
theorem branch283 {G0 G1 G2 G6 G7 G8 G9 Ga Gb Gc Gd Ge Gf Gg Gh Gi Gj Gk Gl Gm Gn Go Gp Gq Gr Gs Gt Gu Gv Gw Gx Gy Gz G10 G11 G12 G13 G14 G15 G16 G17 G18 G19 G1a G1b G1c G1d G1e G1f G1g G1h G1i G1j G1k G1l G1m G1n G1p G1q G1r G1s G1t G1u G1v G1w G1x G1y G1z G20 G21 G22 G23 G24 G25 G26 G27 G28 G29 G2a G2b G2c G2d G2e G2f G2g G2h G2i G2j G2k G2l G2m G2n G2o G2p G2q G2r G2s G2t G2u G2v G2w G2x G2y G2z G30 G31 G32 G33 G34 G35 G36 G37 G38 G39 G3a G3b G3c G3d G3e G3f G3g G3h G3i G3j G3k G3l G3m G3n G3o G3p G3q G3r G3s G3t G3u G3v G3w G3x G3y G3z G40 G41 G42 G43 G44 G45 G46 G47 G48 G49 G4a G4b G4c G4d G4e G4f G4g G4h G4i G4j G4k G4l G4m G4n G4o G4p G4q G4r G4s G4t G4u G4v G4w G4x G4y G4z G50 G51 G52 G53 G54 G55 G56 G57 G58 G59 G5a G5b G5c G5d G5e G5f G5g G5h G5i G5j G5k G5l G5m G5n G5o G5p G5q G5r G5s G5t G5u G5v G5w G5x G5y G5z G60 G61 G62 G63 G64 G65 G66 G67 G68 G69 G6a G6b G6c G6d G6e G6f G6g G6h G6i G6j G6k G6l G6m G6n G6o G6p G6q G6r G6s G6t G6u G6v G6w G6x G6y G6z G70 G71 G72 G73 G74 G75 G76 G77 G78 G79 G7a G7b G7c G7d G7e G7f G7g G7h G7i G7j G7k G7l G7m G7n G7o G7p G7q G7r G7s G7t G7u G7w G7x G7y G7z G80 G81 G82 G83 G84 G85 G86 G87 G88 G89 G8a G8b G8c G8d G8e G8f G8g G8h G8i G8j G8k G8l G8m G8n G8o G8p G8q G8r G8s G8t G8u G8v G8w G8x G8y G8z G90 G91 G92 G93 G94 G95 G96 G97 G98 G99 G9a G9b G9c G9d G9e G9f G9g G9h G9i G9j G9k G9l G9m : Value} (Ab : Option Addr) (cb : Nat) (b : Bool) (p : List S40) (how n pl r2 : Int) (w11 : World) (wl : World) (Q0 : Exit → Act → World → Prop) (HO : Aside0 (Kd.R k40 40 wl w11.heap.size (fun _ => True) (.slice Ab p.length cb) p)) (HB : Aside0 (Below w11.heap.size w11 wl)) (hp2 : dialtonelaw24_pick.f how 2 = some r2) (hr2 : r2 = 0 ∨ r2 = 1) (hpl : I64 pl) (hb : b = true ↔ 0 < p.length)
    (hexit : ∀ (U1p U7w U7x U7y U7z U80 U81 U82 U83 U84 U85 U86 U87 U88 U89 U8a U8b U8c : Value) (w' : World), (∃ lb' : List S40, Aside0 (p.length = lb'.length ∧ p.length ≤ cb ∧ Kd.C k40 w' Ab p.length lb' ∧ Below w11.heap.size w11 w')) → Q0 .normal ⟨List.toArray (G0::G1::G2::(.int .i64 how)::(.int .i64 n)::(.int .i64 pl)::G6::G7::G8::G9::Ga::Gb::Gc::Gd::Ge::Gf::Gg::Gh::Gi::Gj::Gk::Gl::Gm::Gn::Go::Gp::Gq::Gr::Gs::Gt::Gu::Gv::Gw::Gx::Gy::Gz::G10::G11::G12::G13::G14::G15::G16::G17::G18::G19::G1a::G1b::G1c::G1d::G1e::G1f::G1g::G1h::G1i::G1j::G1k::G1l::G1m::G1n::(.slice Ab p.length cb)::U1p::G1q::G1r::G1s::G1t::G1u::G1v::G1w::G1x::G1y::G1z::G20::G21::G22::G23::G24::G25::G26::G27::G28::G29::G2a::G2b::G2c::G2d::G2e::G2f::G2g::G2h::G2i::G2j::G2k::G2l::G2m::G2n::G2o::G2p::G2q::G2r::G2s::G2t::G2u::G2v::G2w::G2x::G2y::G2z::G30::G31::G32::G33::G34::G35::G36::G37::G38::G39::G3a::G3b::G3c::G3d::G3e::G3f::G3g::G3h::G3i::G3j::G3k::G3l::G3m::G3n::G3o::G3p::G3q::G3r::G3s::G3t::G3u::G3v::G3w::G3x::G3y::G3z::G40::G41::G42::G43::G44::G45::G46::G47::G48::G49::G4a::G4b::G4c::G4d::G4e::G4f::G4g::G4h::G4i::G4j::G4k::G4l::G4m::G4n::G4o::G4p::G4q::G4r::G4s::G4t::G4u::G4v::G4w::G4x::G4y::G4z::G50::G51::G52::G53::G54::G55::G56::G57::G58::G59::G5a::G5b::G5c::G5d::G5e::G5f::G5g::G5h::G5i::G5j::G5k::G5l::G5m::G5n::G5o::G5p::G5q::G5r::G5s::G5t::G5u::G5v::G5w::G5x::G5y::G5z::G60::G61::G62::G63::G64::G65::G66::G67::G68::G69::G6a::G6b::G6c::G6d::G6e::G6f::G6g::G6h::G6i::G6j::G6k::G6l::G6m::G6n::G6o::G6p::G6q::G6r::G6s::G6t::G6u::G6v::G6w::G6x::G6y::G6z::G70::G71::G72::G73::G74::G75::G76::G77::G78::G79::G7a::G7b::G7c::G7d::G7e::G7f::G7g::G7h::G7i::G7j::G7k::G7l::G7m::G7n::G7o::G7p::G7q::G7r::G7s::G7t::G7u::(.bool b)::U7w::U7x::U7y::U7z::U80::U81::U82::U83::U84::U85::U86::U87::U88::U89::U8a::U8b::U8c::G8d::G8e::G8f::G8g::G8h::G8i::G8j::G8k::G8l::G8m::G8n::G8o::G8p::G8q::G8r::G8s::G8t::G8u::G8v::G8w::G8x::G8y::G8z::G90::G91::G92::G93::G94::G95::G96::G97::G98::G99::G9a::G9b::G9c::G9d::G9e::G9f::G9g::G9h::G9i::G9j::G9k::G9l::G9m::[]), []⟩ w') :
    Code.wp Try.prog cond283 Q0 ⟨List.toArray (G0::G1::G2::(.int .i64 how)::(.int .i64 n)::(.int .i64 pl)::G6::G7::G8::G9::Ga::Gb::Gc::Gd::Ge::Gf::Gg::Gh::Gi::Gj::Gk::Gl::Gm::Gn::Go::Gp::Gq::Gr::Gs::Gt::Gu::Gv::Gw::Gx::Gy::Gz::G10::G11::G12::G13::G14::G15::G16::G17::G18::G19::G1a::G1b::G1c::G1d::G1e::G1f::G1g::G1h::G1i::G1j::G1k::G1l::G1m::G1n::(.slice Ab p.length cb)::G1p::G1q::G1r::G1s::G1t::G1u::G1v::G1w::G1x::G1y::G1z::G20::G21::G22::G23::G24::G25::G26::G27::G28::G29::G2a::G2b::G2c::G2d::G2e::G2f::G2g::G2h::G2i::G2j::G2k::G2l::G2m::G2n::G2o::G2p::G2q::G2r::G2s::G2t::G2u::G2v::G2w::G2x::G2y::G2z::G30::G31::G32::G33::G34::G35::G36::G37::G38::G39::G3a::G3b::G3c::G3d::G3e::G3f::G3g::G3h::G3i::G3j::G3k::G3l::G3m::G3n::G3o::G3p::G3q::G3r::G3s::G3t::G3u::G3v::G3w::G3x::G3y::G3z::G40::G41::G42::G43::G44::G45::G46::G47::G48::G49::G4a::G4b::G4c::G4d::G4e::G4f::G4g::G4h::G4i::G4j::G4k::G4l::G4m::G4n::G4o::G4p::G4q::G4r::G4s::G4t::G4u::G4v::G4w::G4x::G4y::G4z::G50::G51::G52::G53::G54::G55::G56::G57::G58::G59::G5a::G5b::G5c::G5d::G5e::G5f::G5g::G5h::G5i::G5j::G5k::G5l::G5m::G5n::G5o::G5p::G5q::G5r::G5s::G5t::G5u::G5v::G5w::G5x::G5y::G5z::G60::G61::G62::G63::G64::G65::G66::G67::G68::G69::G6a::G6b::G6c::G6d::G6e::G6f::G6g::G6h::G6i::G6j::G6k::G6l::G6m::G6n::G6o::G6p::G6q::G6r::G6s::G6t::G6u::G6v::G6w::G6x::G6y::G6z::G70::G71::G72::G73::G74::G75::G76::G77::G78::G79::G7a::G7b::G7c::G7d::G7e::G7f::G7g::G7h::G7i::G7j::G7k::G7l::G7m::G7n::G7o::G7p::G7q::G7r::G7s::G7t::G7u::(.bool b)::G7w::G7x::G7y::G7z::G80::G81::G82::G83::G84::G85::G86::G87::G88::G89::G8a::G8b::G8c::G8d::G8e::G8f::G8g::G8h::G8i::G8j::G8k::G8l::G8m::G8n::G8o::G8p::G8q::G8r::G8s::G8t::G8u::G8v::G8w::G8x::G8y::G8z::G90::G91::G92::G93::G94::G95::G96::G97::G98::G99::G9a::G9b::G9c::G9d::G9e::G9f::G9g::G9h::G9i::G9j::G9k::G9l::G9m::[]), []⟩ wl := by
  conv => arg 2; whnf
  cases b with
  | false =>
    clear hb hr2 hp2
    go_wp2
    exact ⟨p, ⟨rfl, (Kd.R_reads' HO.out).2.1, (Kd.R_reads' HO.out).2.2, (by repeat (first | exact HB.out | exact Below.refl _ _ | apply pw_below_drewN | apply below_drew1))⟩⟩
  | true =>
    have hp0 : 0 < p.length := hb.mp rfl
    clear hb
    obtain ⟨rb, hpb, hrb0, hrb1⟩ := pick_tells pl p.length hpl (by omega)
    rw [← lawpick_eq] at hpb
    obtain ⟨gb, cb', eb, gbb, gbl, -⟩ := Kd.R_form HO.out (by omega)
    injection eb with eb1 eb2 eb3
    subst eb1
    subst eb3
    clear eb2 hp0 hpl
    obtain ⟨ce, hcl, hM, hcc, hfr⟩ := Kd.R_elem HO.out z40 rb hrb0 hrb1
    obtain rfl := k40_openM hM
    have hx0 := hcc 0 _ rfl
    have hf0 := hfr 0
    have hx1 := hcc 1 _ rfl
    have hf1 := hfr 1
    simp only [show (k40).sz = 2 from rfl, Nat.mul_one, Nat.add_zero] at hx0 hf0 hx1 hf1
    have HH := Aside0.mk (And.intro hcl hcc)
    clear hcl hcc hM hfr
    rcases hr2 with rfl | rfl
    · go_upto_region 48 with (go_at_call 13; refine (dialtonelaw24_pick.calls pl p.length rb _ hpb).mono ?_; rintro e w7 ⟨rfl, ⟨n14, rfl⟩⟩)
      go_upto_region 49 with (go_at_call 13; refine (dialtonelaw24_pick.calls how 2 0 _ hp2).mono ?_; rintro e w7 ⟨rfl, ⟨n15, rfl⟩⟩)
      go_wp2_with ((with_reducible refine gate_store (t := 3) (p := 295) rfl ?_); refine store_event (t := 3) (p := 295) (v := ?vo) (w1 := (wl.drewN (n14 + n15)).setCell ⟨gb, rb.toNat * 2, none⟩ (.int .i64 n)) ?hg ?ho ?hn ?hr ?_; (case ho => rfl); (case hg => rfl); (case hn => rfl); (case hr => first | (go_simp; done) | (go_simp; rfl)); intro w65 hw)
      have HPp := Kd.R_seg (Kd.R_drewN HO.out (n14 + n15)) rb hrb0 hrb1 (seg := [.int .i64 n]) (j := 0) HH.out.1 (fun j u h => HH.out.2 j u h) (show 0 + 1 ≤ 2 by decide) (x' := (⟨n, (p.getD rb.toNat z40).f1⟩ : S40)) (k40_mkM _ _ _ (⟨n, (p.getD rb.toNat z40).f1⟩ : S40)) (fun _ hk => hk)
      try (subst hw)
      refine ⟨p.set rb.toNat (⟨n, (p.getD rb.toNat z40).f1⟩ : S40), ⟨by rw [List.length_set], (Kd.R_reads' HO.out).2.1, ?_, below_set (by repeat (first | exact HB.out | exact Below.refl _ _ | apply pw_below_drewN | apply below_drew1)) gbb⟩⟩
      have h2 := (Kd.R_reads' HPp.1).2.2
      rw [List.length_set] at h2
      exact h2
    · go_upto_region 48 with (go_at_call 13; refine (dialtonelaw24_pick.calls pl p.length rb _ hpb).mono ?_; rintro e w7 ⟨rfl, ⟨n14, rfl⟩⟩)
      go_upto_region 50 with (go_at_call 13; refine (dialtonelaw24_pick.calls how 2 1 _ hp2).mono ?_; rintro e w7 ⟨rfl, ⟨n15, rfl⟩⟩)
      go_wp2_with ((with_reducible refine gate_store (t := 3) (p := 300) rfl ?_); refine store_event (t := 3) (p := 300) (v := ?vo) (w1 := (wl.drewN (n14 + n15)).setCell ⟨gb, rb.toNat * 2 + 1, none⟩ (.int .i64 n)) ?hg ?ho ?hn ?hr ?_; (case ho => rfl); (case hg => rfl); (case hn => rfl); (case hr => first | (go_simp; done) | (go_simp; rfl)); intro w65 hw)
      have HPp := Kd.R_seg (Kd.R_drewN HO.out (n14 + n15)) rb hrb0 hrb1 (seg := [.int .i64 n]) (j := 1) HH.out.1 (fun j u h => HH.out.2 j u h) (show 1 + 1 ≤ 2 by decide) (x' := (⟨(p.getD rb.toNat z40).f0, n⟩ : S40)) (k40_mkM _ _ _ (⟨(p.getD rb.toNat z40).f0, n⟩ : S40)) (fun _ hk => hk)
      try (subst hw)
      refine ⟨p.set rb.toNat (⟨(p.getD rb.toNat z40).f0, n⟩ : S40), ⟨by rw [List.length_set], (Kd.R_reads' HO.out).2.1, ?_, below_set (by repeat (first | exact HB.out | exact Below.refl _ _ | apply pw_below_drewN | apply below_drew1)) gbb⟩⟩
      have h2 := (Kd.R_reads' HPp.1).2.2
      rw [List.length_set] at h2
      exact h2

end Go.Proofs.Ytmiahmpobpokmaa.V24
namespace Go.Proofs.Ytmiahmpobpokmaa.V24
open Go.RowKit Go.Proofs.Ytmiahmpobpokmaa.P Go.Proofs.Ytmiahmpobpokmaa.T24 Go.Proofs.YtmiahmpobpokmaaW.PrintWords Go.Proofs.YtmiahmpobpokmaaW.PrintLast Go.Proofs.YtmiahmpobpokmaaW.PrintMore Go.Proofs.YtmiahmpobpokmaaH Go.Proofs.YtmiahmpobpokmaaR
attribute [local go_sem] max2_int min2_int max_two min_two max_three min_three max_four min_four
set_option linter.unusedVariables false
set_option linter.unusedSimpArgs false
theorem R_empty40 (W : World) : Kd.R k40 40 (W.alloc (.cells #[] 40 (0, 0))) W.heap.size (fun _ => True) (.slice (some ⟨W.heap.size, 0, none⟩) 0 0) [] := by
  refine ⟨fun _ _ => trivial, [], ?_, Reps.none _ _⟩
  have h2 := World.ownsRow_lit (base := W.heap.size) (e := 40) (size := 2) W #[] 0 (Nat.le_refl _) (by simp [maxLen]) (by simp)
  simpa [show k40.sz = 2 from rfl] using h2
section
variable {Pr : Program} {ops : Array Oper} {o : Oper} {a : Act} {Q : Exit → Act → World → Prop} {Kc : Act → World → Prop}
theorem lit_any_step {W : World} (cs : Array Value) (e : TypeId) (n : Nat) (hw : Region.wanted o (yielded ops a.tmps) = true)
    (hrun : (execOp a.eval o).run Pr W = .ok (.value (.slice (some ⟨W.heap.size, 0, none⟩) n n)) (W.alloc (.cells cs e (0, 0))))
    (h : ∀ ad w1, Below W.heap.size W w1 → (∀ w', Below w1.heap.size w1 w' → ∀ (i : Nat) (u : Value), cs[i]? = some u → w'.cell? (ad.add i) = some u) → Kc (a.put o.dst (.slice (some ad) n n)) w1) : if Region.wanted o (yielded ops a.tmps) = true then Oper.wp Pr o a W Kc Q else Kc (a.put o.dst undef) W := by
  refine event_step hw hrun (h ⟨W.heap.size, 0, none⟩ _ (below_alloc (Below.refl _ _) _) (fun w' hb i u hu => ?_))
  have hc := blk_cell (blk_new W (.cells cs e (0, 0))) i
  have := pw_cell_below hb (hc.trans hu)
  have e : (⟨W.heap.size, 0, none⟩ : Addr).add i = ⟨W.heap.size, i, none⟩ := by cases i <;> simp [Addr.add]
  rw [e]; exact this
end
set_option maxHeartbeats 8000000 in
set_option maxRecDepth 100000 in
theorem walk (A0 : Option Addr) (c0 : Nat) (l0 : List Int) (A1 : Option Addr) (c1 : Nat) (l1 : List Int) (lag how n pl : Int) (A6 : Option Addr) (c6 : Nat) (l6 : List Int) (A7 : Option Addr) (c7 : Nat) (l7 : List Int) (c u : Int) (A10 : Option Addr) (c10 : Nat) (l10 : List S40) (w : World)
    (hr0 : Kd.C (Kd.int .i64) w A0 l0.length l0) (hc0 : l0.length ≤ c0) (hr1 : Kd.C (Kd.int .i64) w A1 l1.length l1) (hc1 : l1.length ≤ c1) (hr6 : Kd.C (Kd.int .i64) w A6 l6.length l6) (hc6 : l6.length ≤ c6) (hr7 : Kd.C (Kd.int .i64) w A7 l7.length l7) (hc7 : l7.length ≤ c7) (hr10 : Kd.C k40 w A10 l10.length l10) (hc10 : l10.length ≤ c10)
    (hx : ∀ v ∈ l0, I64 v) (hy : ∀ v ∈ l1, I64 v) (hlag : I64 lag) (hpl : I64 pl) (hhow : I64 how) (hci : I64 c) (hui : I64 u) :
    Calls Try.prog 3 #[.slice A0 l0.length c0, .slice A1 l1.length c1, .int .i64 lag, .int .i64 how, .int .i64 n, .int .i64 pl, .slice A6 l6.length c6, .slice A7 l7.length c7, .int .i64 c, .int .i64 u, .slice A10 l10.length c10] w fun e w' => e = .returned (.bool true) ∧ Below w.heap.size w w' := by
  obtain ⟨k0, hs0⟩ := sane_ev
  have hsane : dialtonelaw24_sane.f k0 = some true := hs0 k0 (Nat.le_refl _)
  obtain ⟨h, kn, l, ⟨k1, hm1⟩, hVK, hh12, -⟩ := made_tells l0 l1 lag hx hy hlag
  have hmade : dialtoneref24_Made.f k1 l0 l1 lag = some (h, kn, l) := hm1 k1 (Nat.le_refl _)
  obtain ⟨r2, hp2, hp20, hp21⟩ := pick_tells how 2 hhow (by omega)
  have hh1 := hVK.len1
  have hk8 := hVK.klen
  obtain ⟨ro, hpo, hpo0, hpo1⟩ := pick_tells pl h.length hpl (by omega)
  obtain ⟨rk, hpk, hpk0, hpk1⟩ := pick_tells pl kn.length hpl (by omega)
  obtain ⟨rc, hpc, -, -⟩ := pick_tells c 8 hci (by omega)
  obtain ⟨ru, hpu, hpu0, hpu1⟩ := pick_tells u 13 hui (by omega)
  rw [← lawpick_eq] at hp2 hpo hpk hpc hpu
  have HX := Aside0.mk (And.intro hx (And.intro hy (And.intro hm1 (And.intro hs0 (And.intro hVK (And.intro hp20 (And.intro hp21 (And.intro hpo0 (And.intro hpo1 (And.intro hpk0 (And.intro hpk1 (And.intro hh1 (And.intro hh12 hk8)))))))))))))
  clear hx hy hm1 hs0 hVK hp20 hp21 hpo0 hpo1 hpk0 hpk1 hh1 hh12 hk8
  have HC := Aside0.mk (And.intro hlag (And.intro hpl (And.intro hhow (And.intro hci hui))))
  clear hlag hpl hhow hci hui
  have HR := Aside0.mk (And.intro hr6 (And.intro hc6 (And.intro hr7 (And.intro hc7 (And.intro hr10 hc10)))))
  clear hr6 hc6 hr7 hc7 hr10 hc10
  go_enter Try.func3, Try.ntmps3
  go_upto_if 85 with (first
    | (go_at_call 11; refine (dialtonelaw24_sane.calls k0 true _ hsane).mono ?_; rintro e w1 ⟨rfl, hb1⟩)
    | (go_at_call 12; refine (dialtoneref24_Made.calls k1 _ _ l0 _ _ l1 lag h kn l _ (Kd.C_below hr0 (by repeat (first | exact hb1 | exact Below.refl _ _ | apply pw_below_drewN | apply below_drew1))) hc0 (Kd.C_below hr1 (by repeat (first | exact hb1 | exact Below.refl _ _ | apply pw_below_drewN | apply below_drew1))) hc1 hmade).mono ?_; rintro e w2 ⟨vh, vk, rfl, hoh, hok, hb2⟩; have HB2 := Aside0.mk (below_step hb1 hb2 : Below w.heap.size w w2); obtain ⟨Ah, ch, rfl, hch, hrh⟩ := Kd.R_reads hoh; obtain ⟨Ak, ck, rfl, hck, hrk⟩ := Kd.R_reads hok; have HV2 := Aside0.mk (And.intro hch (And.intro hrh (And.intro hck hrk))); clear hoh hok hch hrh hck hrk hr0 hr1 hb1 hb2)
    | (go_at_call 13; refine (dialtonelaw24_pick.calls how 2 r2 _ hp2).mono ?_; rintro e w7 ⟨rfl, ⟨nd, rfl⟩⟩)
    | ((with_reducible refine gate_dst (N := 77) rfl ?_); refine Kd.R_lit (Kd.int .i64) _ 3 ?hg (N := 77) ?hd (xs := ([] : List Int)) (inner := []) (ok := fun _ => True) (okp := fun _ => True) ?hr ?hp (fun _ hk => hk) trivial (Below.refl _ _) (Nat.le_refl _) (by simp) ?_; (case hd => rfl); (case hg => rfl); (case hr => first | (go_simp; done) | (go_simp; rfl)); (case hp => exact (Reps.none _ _)); intro v77 w3 ho77 hb77 hg_ hnew_; clear hg_ hnew_)
    | ((with_reducible refine gate_builtin (b := .append) (xs := #[.tmp 77, .tmp 78]) rfl ?_); at_builtin; refine Kd.R_append_rows (Kd.int .i64) (w0 := w2) w2.heap.size rfl (.tmp 77) (.tmp 78) 22 3 (.int .i64 0) 8 rfl Try.underlying22 info3 rfl (by decide) (by omega) v77 [] h _ _ _ (fun _ => True) (fun _ => False) rfl rfl ?aO ?aR (fun _ _ h => h) (fun _ h => h.elim) ?aF ?aB ?aS ?aL ?_; (case aR => exact Kd.C_below HV2.out.2.1 (by repeat (first | exact hb77 | exact Below.refl _ _ | apply pw_below_drewN | apply below_drew1))); (case aB => exact (by repeat (first | exact hb77 | exact Below.refl _ _ | apply pw_below_drewN | apply below_drew1))); (case aF => exact (fun _ _ => trivial)); (case aO => exact ho77); (case aS => exact (below_size (by repeat (first | exact hb77 | exact Below.refl _ _ | apply pw_below_drewN | apply below_drew1)))); (case aL => have := HX.out; simp only [List.length_nil]; omega); intro vo w4 hoA77 hbA77 hgA77 hatA77; rw [List.nil_append] at hoA77; obtain ⟨go, co, rfl, gb4, gl4, -, -⟩ := Kd.R_form hoA77 (by have := HX.out; omega); have HG4 := Aside0.mk (And.intro gb4 gl4); clear gb4 gl4; have HB4 := Aside0.mk (hbA77 : Below w2.heap.size w2 w4); have HO4 := Aside0.mk hoA77; clear hbA77 hoA77 hgA77 hatA77 hb77 ho77)
    | ((with_reducible refine gate_dst (N := 80) rfl ?_); refine Kd.R_lit (Kd.int .i64) _ 3 ?hg (N := 80) ?hd (xs := ([] : List Int)) (inner := []) (ok := fun _ => True) (okp := fun _ => True) ?hr ?hp (fun _ hk => hk) trivial (Below.refl _ _) (Nat.le_refl _) (by simp) ?_; (case hd => rfl); (case hg => rfl); (case hr => first | (go_simp; done) | (go_simp; rfl)); (case hp => exact (Reps.none _ _)); intro v80 w5 ho80 hb80 hg_ hnew_; clear hg_ hnew_)
    | ((with_reducible refine gate_builtin (b := .append) (xs := #[.tmp 80, .tmp 81]) rfl ?_); at_builtin; refine Kd.R_append_rows (Kd.int .i64) (w0 := w4) w4.heap.size rfl (.tmp 80) (.tmp 81) 22 3 (.int .i64 0) 8 rfl Try.underlying22 info3 rfl (by decide) (by omega) v80 [] kn _ _ _ (fun _ => True) (fun _ => False) rfl rfl ?aO ?aR (fun _ _ h => h) (fun _ h => h.elim) ?aF ?aB ?aS ?aL ?_; (case aR => exact Kd.C_below HV2.out.2.2.2 (below_step HB4.out (by repeat (first | exact hb80 | exact Below.refl _ _ | apply pw_below_drewN | apply below_drew1)))); (case aB => exact (by repeat (first | exact hb80 | exact Below.refl _ _ | apply pw_below_drewN | apply below_drew1))); (case aF => exact (fun _ _ => trivial)); (case aO => exact ho80); (case aS => exact (below_size (by repeat (first | exact hb80 | exact Below.refl _ _ | apply pw_below_drewN | apply below_drew1)))); (case aL => have := HX.out; simp only [List.length_nil]; omega); intro vk2 w6 hoA80 hbA80 hgA80 hatA80; rw [List.nil_append] at hoA80; obtain ⟨gk, ck2, rfl, gb6, gl6, -, -⟩ := Kd.R_form hoA80 (by have := HX.out; omega); have HG6 := Aside0.mk (And.intro gb6 gl6); clear gb6 gl6; have HB6 := Aside0.mk (hbA80 : Below w4.heap.size w4 w6); have HB26 := Aside0.mk (below_step HB4.out HB6.out); have HOa := Aside0.mk (Kd.R_mono (Kd.R_below (Kd.R_bound HO4.out) HB6.out) (fun k hk => (show k ≠ gk by have := HG6.out; have := hk.2.2.1; omega))); have HOb := Aside0.mk (Kd.R_mono (Kd.R_bound hoA80) (fun k hk => (show k ≠ go by have := HG4.out; have := hk.2.1; omega))); clear hbA80 hoA80 hgA80 hatA80 hb80 ho80))
  obtain ⟨q0, q1, q2, q3⟩ : 0 ≤ ro ∧ ro < (h.length : Int) ∧ 0 ≤ rk ∧ rk < (kn.length : Int) := by have := HX.out; omega
  refine branch85 go co gk ck2 _ _ _ h kn n pl ro rk w2 _ _ ⟨by repeat (first | exact HOa.out | apply Kd.R_drewN)⟩ ⟨by repeat (first | exact HOb.out | apply Kd.R_drewN)⟩ ⟨(by repeat (first | exact HB26.out | exact Below.refl _ _ | apply pw_below_drewN | apply below_drew1)), by have := HG4.out; omega, by have := HG6.out; have := below_size HB4.out; omega⟩ hpo hpk q0 q1 q2 q3 ?_
  intro s86 s87 s88 s89 s90 s91 s92 s93 s94 s95 s96 s97 s98 s99 wc hcut
  clear q0 q1 q2 q3
  · obtain ⟨lo, lk, HL⟩ := hcut
    clear HO4 HOa HOb HB4 HB6 HB26 HG4 HG6
    obtain ⟨m6, hm6, hm6a, hm6b⟩ : ∃ m : Nat, (if (31 : Int) < (l6.length : Int) then (31 : Int) else (l6.length : Int)) = (m : Int) ∧ m ≤ l6.length ∧ m ≤ 31 := by
      by_cases hh : (31 : Int) < (l6.length : Int)
      · exact ⟨31, by rw [if_pos hh]; rfl, by omega, by omega⟩
      · exact ⟨l6.length, by rw [if_neg hh], by omega, by omega⟩
    obtain ⟨m7, hm7, hm7a, hm7b⟩ : ∃ m : Nat, (if (9 : Int) < (l7.length : Int) then (9 : Int) else (l7.length : Int)) = (m : Int) ∧ m ≤ l7.length ∧ m ≤ 9 := by
      by_cases hh : (9 : Int) < (l7.length : Int)
      · exact ⟨9, by rw [if_pos hh]; rfl, by omega, by omega⟩
      · exact ⟨l7.length, by rw [if_neg hh], by omega, by omega⟩
    have g6 : (m6 ≤ c6) = True := eq_true (by have := HR.out; omega)
    have g7 : (m7 ≤ c7) = True := eq_true (by have := HR.out; omega)
    have HM := Aside0.mk (And.intro hm6a (And.intro hm6b (And.intro hm7a hm7b)))
    clear hm6a hm6b hm7a hm7b
    go_wp2_with (first
      | ((with_reducible refine gate_dst (N := 113) rfl ?_); refine lit_any #[.slice Ah h.length ch, .slice (some ⟨go, 0, none⟩) h.length co, .slice A6 m6 c6] 22 3 rfl ?hr ?_; (case hr => first | (go_simp; done) | (go_simp; rfl)); intro ad8 w8 hb8 hl8))
    have hCh : Aside0 (Kd.C (Kd.int .i64) w8 Ah h.length h ∧ Kd.C (Kd.int .i64) w8 Ak kn.length kn ∧ h.length ≤ ch ∧ kn.length ≤ ck ∧ Kd.C (Kd.int .i64) w8 (some ⟨go, 0, none⟩) lo.length lo ∧ Kd.C (Kd.int .i64) w8 (some ⟨gk, 0, none⟩) lk.length lk ∧ lo.length ≤ co ∧ lk.length ≤ ck2 ∧ h.length = lo.length ∧ kn.length = lk.length ∧ Below w.heap.size w w8) := ⟨by
      obtain ⟨a1, a2, a3, a4, a5, a6, a7⟩ := HL.out
      obtain ⟨b1, b2, b3, b4⟩ := HV2.out
      have hb : Below w2.heap.size w2 w8 := below_step a7 hb8
      exact ⟨Kd.C_below b2 hb, Kd.C_below b4 hb, b1, b3, Kd.C_below a3 hb8, Kd.C_below a4 hb8, a5, a6, a1.symm, a2.symm, below_step HB2.out hb⟩⟩
    have hC6 : Aside0 (Kd.C (Kd.int .i64) w8 A6 (l6.take m6).length (l6.take m6) ∧ m6 = (l6.take m6).length ∧ m6 ≤ c6 ∧ Kd.C (Kd.int .i64) w8 A7 (l7.take m7).length (l7.take m7) ∧ m7 = (l7.take m7).length ∧ m7 ≤ c7 ∧ Kd.C k40 w8 A10 l10.length l10 ∧ l10.length ≤ c10) := ⟨by
      obtain ⟨r1, r2, r3, r4, r5, r6⟩ := HR.out
      obtain ⟨e1, e2, e3, e4⟩ := HM.out
      have hb := hCh.out.2.2.2.2.2.2.2.2.2.2
      exact ⟨Kd.C_take (Kd.C_below r1 hb) e1, by simp; omega, by omega, Kd.C_take (Kd.C_below r3 hb) e3, by simp; omega, by omega, Kd.C_below r5 hb, r6⟩⟩
    have hL1 : Aside0 (∀ w', Below w8.heap.size w8 w' → kn.length = kn.length ∧ kn.length ≤ ck ∧ Kd.C (Kd.int .i64) w' Ak kn.length kn ∧ kn.length = lk.length ∧ kn.length ≤ ck2 ∧ Kd.C (Kd.int .i64) w' (some ⟨gk, 0, none⟩) kn.length lk ∧ m7 = (l7.take m7).length ∧ m7 ≤ c7 ∧ Kd.C (Kd.int .i64) w' A7 m7 (l7.take m7)) := ⟨by
      intro w' hb
      obtain ⟨a1, a2, a3, a4, a5, a6, a7, a8, a9, a10, a11⟩ := hCh.out
      obtain ⟨r1, r2, r3, r4, r5, r6, r7, r8⟩ := hC6.out
      exact ⟨rfl, a4, Kd.C_below a2 hb, a10, by omega, by rw [a10]; exact Kd.C_below a6 hb, r5, r6, by rw [r5.symm] at r4; exact Kd.C_below r4 hb⟩⟩
    have hL6 : Aside0 (∀ w', Below w8.heap.size w8 w' → h.length = h.length ∧ h.length ≤ ch ∧ Kd.C (Kd.int .i64) w' Ah h.length h ∧ h.length = lo.length ∧ h.length ≤ co ∧ Kd.C (Kd.int .i64) w' (some ⟨go, 0, none⟩) h.length lo ∧ m6 = (l6.take m6).length ∧ m6 ≤ c6 ∧ Kd.C (Kd.int .i64) w' A6 m6 (l6.take m6)) := ⟨by
      intro w' hb
      obtain ⟨a1, a2, a3, a4, a5, a6, a7, a8, a9, a10, a11⟩ := hCh.out
      obtain ⟨r1, r2, r3, r4, r5, r6, r7, r8⟩ := hC6.out
      exact ⟨rfl, a3, Kd.C_below a1 hb, a9, by omega, by rw [a9]; exact Kd.C_below a5 hb, r2, r3, by rw [r2.symm] at r1; exact Kd.C_below r1 hb⟩⟩
    have hE1 : Aside0 (∀ w', Below w8.heap.size w8 w' → ∀ i : Nat, i < 3 → ∃ A cc, ∃ ll : List Int, w'.cell? (ad8.add i) = some (.slice A ll.length cc) ∧ ll.length ≤ cc ∧ Kd.C (Kd.int .i64) w' A ll.length ll) := ⟨by
      intro w' hb i hi
      obtain ⟨e1, f1, g1, e2, f2, g2, e3, f3, g3⟩ := hL6.out w' hb
      rcases i with _ | _ | _ | i
      · exact ⟨_, ch, h, hl8 w' hb 0 _ rfl, by omega, g1⟩
      · exact ⟨_, co, lo, hl8 w' hb 1 _ (by rw [← e2]; rfl), by omega, e2 ▸ g2⟩
      · exact ⟨_, c6, l6.take m6, hl8 w' hb 2 _ (by rw [← e3]; rfl), by omega, by rw [← e3]; exact g3⟩
      · omega⟩
    clear hb8 hl8
    refine loop1 Ak (some ⟨gk, 0, none⟩) A7 kn lk (l7.take m7) kn.length kn.length m7 ck ck2 c7 c u rc ru l lag ad8 w8 _ hL1 hpc hpu hE1 ?_
    intro Ym Yu Yw Yy Y10 Y11 Y12 Y13 Y14 Y15 Y16 Y17 Y18 Y19 Y1a Y1c Y1d Y1e Y1f Y1g Y1h Y1i Y1j Y1k Y37 Y38 Y39 Y3a Y3b Y3c Y3d Y3e Y3f Y3g Y3h Y3i Y3j Y3k Y3l Y3m Y3n Y3o Y3p Y3q Y3r Y3s Y3t Y3u Y3v Y3w Y3x Y3y Y3z Y40 Y41 Y42 Y43 Y44 Y45 Y46 Y47 Y48 Y49 Y4a Y4b Y4c Y4d Y4e Y4f Y4g Y4h Y4i Y4j Y4k Y4l Y4m Y4n Y4o Y4p Y4q Y4r Y4s Y4t Y4u Y4v Y4w Y4x Y4y Y4z Y50 Y51 Y52 Y53 Y54 Y55 Y56 Y57 Y58 Y59 Y5a Y5b Y5c Y5d Y5e Y5f Y5g Y5h Y5i Y5j Y5k Y5l Y5m Y5n Y5o Y5p Y5q Y5r Y5s Y5t Y5u Y5v Y5w Y5x Y5y Y5z Y60 Y61 Y62 Y63 Y64 Y65 Y66 Y67 Y68 Y69 Y6a Y6b Y6c Y6d Y6e Y6f Y6g Y6h Y6i Y6j Y6k Y6l Y6m Y6n Y6o Y6p Y6q Y6r Y6s Y6t Y6u Y6v Y6w Y6x Y6y Y6z Y70 Y71 Y72 Y73 Y74 Y75 Y76 Y77 Y78 Y79 Y7a Y7b Y7c Y7d Y7e Y7f w9 hb9
    have hHh : Aside0 (Kd.C (Kd.int .i64) w9 Ah h.length h ∧ Kd.C (Kd.int .i64) w9 Ak kn.length kn ∧ h.length ≤ ch ∧ kn.length ≤ ck) := ⟨Kd.C_below hCh.out.1 hb9, Kd.C_below hCh.out.2.1 hb9, hCh.out.2.2.1, hCh.out.2.2.2.1⟩
    obtain ⟨p, en, s, -, ⟨kq, hkq⟩, hp12, -⟩ := ref_path h kn l rc
    have hpth : dialtoneref24_Path.f kq h kn l rc = some (p, en, s) := hkq kq (Nat.le_refl _)
    clear hkq
    have HP := Aside0.mk hp12
    clear hp12
    go_upto_if 283 with (first
      | (go_at_call 13; refine (dialtonelaw24_pick.calls c 8 rc _ hpc).mono ?_; rintro e w10 ⟨rfl, np, rfl⟩)
      | (go_at_call 17; refine (dialtoneref24_Path.calls kq _ _ h _ _ kn l rc p en s _ (Kd.C_drewN hHh.out.1 _) hHh.out.2.2.1 (Kd.C_drewN hHh.out.2.1 _) hHh.out.2.2.2 hpth).mono ?_; rintro e w11 ⟨vp, rfl, hop, hb11⟩; obtain ⟨Ap, cp, rfl, hcp, hrp⟩ := Kd.R_reads hop; have HCp := Aside0.mk (And.intro hcp hrp); have HB11 := Aside0.mk (below_step (w := w8) (by repeat (first | exact hb9 | exact Below.refl _ _ | apply pw_below_drewN | apply below_drew1)) hb11); clear hop hb11 hcp hrp hb9)
      | ((with_reducible refine gate_dst (N := 278) rfl ?_); refine Kd.R_lit k40 _ 40 ?hg (N := 278) ?hd (xs := ([] : List S40)) (inner := []) (ok := fun _ => True) (okp := fun _ => True) ?hr ?hp (fun _ hk => hk) trivial (Below.refl _ _) (Nat.le_refl _) (by simp) ?_; (case hd => rfl); (case hg => rfl); (case hr => first | (go_simp; done) | (go_simp; rfl)); (case hp => exact (Reps.none _ _)); intro v278 w12 ho278 hb278 hg_ hnew_; clear hg_ hnew_)
      | ((with_reducible refine gate_builtin (b := .append) (xs := #[.tmp 278, .tmp 279]) rfl ?_); at_builtin; refine Kd.R_append_rows k40 (w0 := w11) w11.heap.size rfl (.tmp 278) (.tmp 279) 23 40 (.agg #[(.int .i64 0), (.int .i64 0)]) 16 rfl Try.underlying23 info40 rfl (by decide) (by omega) v278 [] p _ _ _ (fun _ => True) (fun _ => False) rfl rfl ?aO ?aR (fun _ _ h => h) (fun _ h => h.elim) ?aF ?aB ?aS ?aL ?_; (case aR => exact Kd.C_below HCp.out.2 (by repeat (first | exact hb278 | exact Below.refl _ _ | apply pw_below_drewN | apply below_drew1))); (case aB => exact (by repeat (first | exact hb278 | exact Below.refl _ _ | apply pw_below_drewN | apply below_drew1))); (case aF => exact (fun _ _ => trivial)); (case aO => exact ho278); (case aS => exact (below_size (by repeat (first | exact hb278 | exact Below.refl _ _ | apply pw_below_drewN | apply below_drew1)))); (case aL => have := HP.out; simp only [List.length_nil]; omega); intro vb w13 hoA hbA hgA hatA; rw [List.nil_append] at hoA; obtain ⟨Ab, cb, rfl⟩ := Kd.R_slice hoA; have HO13 := Aside0.mk hoA; have HB13 := Aside0.mk (hbA : Below w11.heap.size w11 w13); clear hoA hbA hgA hatA hb278 ho278))
    have hr2 : r2 = 0 ∨ r2 = 1 := by have := HX.out; omega
    refine branch283 Ab cb _ p how n pl r2 w11 _ _ ⟨HO13.out⟩ ⟨(by repeat (first | exact HB13.out | exact Below.refl _ _ | apply pw_below_drewN | apply below_drew1))⟩ hp2 hr2 HC.out.2.1 (by first | (simp; done) | (simp only [decide_eq_true_eq]; omega)) ?_
    intro r61 r284 r285 r286 r287 r288 r289 r290 r291 r292 r293 r294 r295 r296 r297 r298 r299 r300 wc hcut
    · obtain ⟨lb', HLb⟩ := hcut
      clear HO13
      obtain ⟨m10, hm10, hm10a, hm10b⟩ : ∃ m : Nat, (if (8 : Int) < (l10.length : Int) then (8 : Int) else (l10.length : Int)) = (m : Int) ∧ m ≤ l10.length ∧ m ≤ 8 := by
        by_cases hh : (8 : Int) < (l10.length : Int)
        · exact ⟨8, by rw [if_pos hh]; rfl, by omega, by omega⟩
        · exact ⟨l10.length, by rw [if_neg hh], by omega, by omega⟩
      have g10 : (m10 ≤ c10) = True := eq_true (by have := hC6.out.2.2.2.2.2.2.2; omega)
      have HM10 := Aside0.mk (And.intro hm10a hm10b)
      clear hm10a hm10b
      have HB811 := Aside0.mk (below_step HB11.out HLb.out.2.2.2)
      have hZp : Aside0 (p.length ≤ cp ∧ Kd.C k40 wc Ap p.length p ∧ p.length ≤ cb ∧ p.length = lb'.length ∧ Kd.C k40 wc Ab p.length lb' ∧ m10 = (l10.take m10).length ∧ m10 ≤ c10 ∧ Kd.C k40 wc A10 m10 (l10.take m10)) := ⟨by
        obtain ⟨z1, z2, z3, z4⟩ := HLb.out
        obtain ⟨x1, x2⟩ := HCp.out
        have e : m10 = (l10.take m10).length := by have := HM10.out; simp; omega
        have hc := Kd.C_below hC6.out.2.2.2.2.2.2.1 HB811.out
        have hcc := hC6.out.2.2.2.2.2.2.2
        exact ⟨x1, Kd.C_below x2 z4, z2, z1, z3, e, by have := HM10.out; omega, by have h2 := Kd.C_take hc HM10.out.1; rw [e.symm] at h2; exact h2⟩⟩
      go_upto_region 51 with fail
      go_cut [313, 314, 315] (fun v313 v314 v315 wd => ∃ ad, v313 = .slice (some ad) 4 4 ∧ v314 = .int .i64 4 ∧ v315 = .int .i64 0 ∧ Aside0 (Below wc.heap.size wc wd ∧ ∀ w', Below wd.heap.size wd w' → ∀ i : Nat, i < 4 → ∃ A cc, ∃ ll : List S40, w'.cell? (ad.add i) = some (.slice A ll.length cc) ∧ ll.length ≤ cc ∧ Kd.C k40 w' A ll.length ll ∧ ll.length < 1000000))
      case first =>
        refine start_ (n := 15) (S := fun w' => True) (ds := []) #[false, false, false, false, false, false, false, false, false, false, false, false, false, false, false] (by kernel_rfl) rfl rfl trivial (fun hHeld => ?_)
        refine pure_ (i := 0) (N := some 301) (v := ?_) (a' := ?_) #[true, false, false, false, false, false, false, false, false, false, false, false, false, false, false] rfl rfl (by kernel_rfl) (fun _ _ _ h => h) (Or.inl ⟨by rfl, ?_⟩) ?_ ?_
        rotate_left
        · intro w'
          go_simp
          with_reducible rfl
        rotate_left
        · simp only [Act.put, List.setIfInBounds_toArray, List.set_cons_zero, List.set_cons_succ, i64_w, i32_w]
          rfl
        refine pure_ (i := 1) (N := some 302) (v := ?_) (a' := ?_) #[true, true, false, false, false, false, false, false, false, false, false, false, false, false, false] rfl rfl (by kernel_rfl) (fun _ _ _ h => h) (Or.inl ⟨by rfl, ?_⟩) ?_ ?_
        rotate_left
        · intro w'
          go_simp
          with_reducible rfl
        rotate_left
        · simp only [Act.put, List.setIfInBounds_toArray, List.set_cons_zero, List.set_cons_succ, i64_w, i32_w]
          rfl
        refine pure_ (i := 3) (N := some 304) (v := ?_) (a' := ?_) #[true, true, false, true, false, false, false, false, false, false, false, false, false, false, false] rfl rfl (by kernel_rfl) (fun _ _ _ h => h) (Or.inl ⟨by rfl, ?_⟩) ?_ ?_
        rotate_left
        · intro w'
          go_simp
          with_reducible rfl
        rotate_left
        · simp only [Act.put, List.setIfInBounds_toArray, List.set_cons_zero, List.set_cons_succ, i64_w, i32_w]
          rfl
        refine pure_ (i := 5) (N := some 306) (v := ?_) (a' := ?_) #[true, true, false, true, false, true, false, false, false, false, false, false, false, false, false] rfl rfl (by kernel_rfl) (fun _ _ _ h => h) (Or.inl ⟨by rfl, ?_⟩) ?_ ?_
        rotate_left
        · intro w'
          go_simp
          with_reducible rfl
        rotate_left
        · simp only [Act.put, List.setIfInBounds_toArray, List.set_cons_zero, List.set_cons_succ, i64_w, i32_w]
          rfl
        refine pure_ (i := 7) (N := some 308) (v := ?_) (a' := ?_) #[true, true, false, true, false, true, false, true, false, false, false, false, false, false, false] rfl rfl (by kernel_rfl) (fun _ _ _ h => h) (Or.inl ⟨by rfl, ?_⟩) ?_ ?_
        rotate_left
        · intro w'
          go_simp
          with_reducible rfl
        rotate_left
        · simp only [Act.put, List.setIfInBounds_toArray, List.set_cons_zero, List.set_cons_succ, i64_w, i32_w]
          rfl
        refine pure_ (i := 8) (N := some 309) (v := ?_) (a' := ?_) #[true, true, false, true, false, true, false, true, true, false, false, false, false, false, false] rfl rfl (by kernel_rfl) (fun _ _ _ h => h) (Or.inl ⟨by rfl, ?_⟩) ?_ ?_
        rotate_left
        · intro w'
          go_simp
          with_reducible rfl
        rotate_left
        · simp only [Act.put, List.setIfInBounds_toArray, List.set_cons_zero, List.set_cons_succ, i64_w, i32_w]
          rfl
        refine pure_ (i := 9) (N := some 310) (v := ?_) (a' := ?_) #[true, true, false, true, false, true, false, true, true, true, false, false, false, false, false] rfl rfl (by kernel_rfl) (fun _ _ _ h => h) (Or.inl ⟨by rfl, ?_⟩) ?_ ?_
        rotate_left
        · intro w'
          go_simp
          with_reducible rfl
        rotate_left
        · simp only [Act.put, List.setIfInBounds_toArray, List.set_cons_zero, List.set_cons_succ, i64_w, i32_w]
          rfl
        refine pure_ (i := 10) (N := some 311) (v := ?_) (a' := ?_) #[true, true, false, true, false, true, false, true, true, true, true, false, false, false, false] rfl rfl (by kernel_rfl) (fun _ _ _ h => h) (Or.inl ⟨by rfl, ?_⟩) ?_ ?_
        rotate_left
        · intro w'
          go_simp
          with_reducible rfl
        rotate_left
        · simp only [Act.put, List.setIfInBounds_toArray, List.set_cons_zero, List.set_cons_succ, i64_w, i32_w]
          rfl
        refine pure_ (i := 11) (N := some 312) (v := ?_) (a' := ?_) #[true, true, false, true, false, true, false, true, true, true, true, true, false, false, false] rfl rfl (by kernel_rfl) (fun _ _ _ h => h) (Or.inl ⟨by rfl, ?_⟩) ?_ ?_
        rotate_left
        · intro w'
          go_simp
          with_reducible rfl
        rotate_left
        · simp only [Act.put, List.setIfInBounds_toArray, List.set_cons_zero, List.set_cons_succ, i64_w, i32_w]
          rfl
        refine pure_ (i := 14) (N := some 315) (v := ?_) (a' := ?_) #[true, true, false, true, false, true, false, true, true, true, true, true, false, false, true] rfl rfl (by kernel_rfl) (fun _ _ _ h => h) (Or.inl ⟨by rfl, ?_⟩) ?_ ?_
        rotate_left
        · intro w'
          go_simp
          with_reducible rfl
        rotate_left
        · simp only [Act.put, List.setIfInBounds_toArray, List.set_cons_zero, List.set_cons_succ, i64_w, i32_w]
          rfl
        refine one_ (i := 2) (N := some 303) #[true, true, true, true, false, true, false, true, true, true, true, true, false, false, true] rfl rfl (by kernel_rfl) (by decide) (fun K hK => ?_)
        refine Kd.R_lit_step k40 (w0 := wc) wc.heap.size 40 (by rfl) (N := 303) rfl (xs := ([] : List S40)) (inner := []) (ok := fun _ => True) (okp := fun _ => True) ?hr (Reps.none _ _) (fun _ hk => hk) trivial ?hB ?hS (by simp) ?_
        case hr => first | (go_simp; done) | (go_simp; rfl)
        case hB => exact (below_drew1 (Below.refl _ _))
        case hS => exact (below_size (below_drew1 (Below.refl _ _)))
        intro v303 wa ho303 hb303 hg_ hn_
        clear hg_ hn_
        refine hK.out _ _ trivial (fun hHeld => ?_)
        clear hK K
        refine norm_ (a' := ?_) ?_ ?_
        rotate_left
        · show Act.put _ (some 303) _ = _
          simp only [Act.put, List.setIfInBounds_toArray, List.set_cons_zero, List.set_cons_succ, i64_w, i32_w]
          rfl
        refine one_ (i := 4) (N := some 305) #[true, true, true, true, true, true, false, true, true, true, true, true, false, false, true] rfl rfl (by kernel_rfl) (by decide) (fun K hK => ?_)
        refine Kd.R_append_rows_step k40 (w0 := wc) wc.heap.size (by rfl) (.tmp 303) (.tmp 304) 23 40 (.agg #[(.int .i64 0), (.int .i64 0)]) 16 rfl Try.underlying23 info40 rfl (by decide) (by omega) v303 [] p _ _ _ (fun _ => True) (fun _ => False) rfl rfl ?aO ?aR (fun _ _ h => h) (fun _ h => h.elim) ?aF ?aB ?aS ?aL ?_
        case aR => exact Kd.C_below hZp.out.2.1 hb303
        case aB => exact hb303
        case aF => exact (fun _ _ => trivial)
        case aO => exact ho303
        case aS => exact (below_size hb303)
        case aL => (have := HP.out; simp only [List.length_nil]; omega)
        intro v305 wb ho305 hb305 hg_ hn_
        clear hg_ hn_
        rw [List.nil_append] at ho305
        obtain ⟨A5, c5, rfl⟩ := Kd.R_slice ho305
        refine hK.out _ _ trivial (fun hHeld => ?_)
        clear hK K
        refine norm_ (a' := ?_) ?_ ?_
        rotate_left
        · show Act.put _ (some 305) _ = _
          simp only [Act.put, List.setIfInBounds_toArray, List.set_cons_zero, List.set_cons_succ, i64_w, i32_w]
          rfl
        refine one_ (i := 6) (N := some 307) #[true, true, true, true, true, true, true, true, true, true, true, true, false, false, true] rfl rfl (by kernel_rfl) (by decide) (fun K hK => ?_)
        refine Kd.R_append_rows_step k40 (w0 := wc) wc.heap.size (by rfl) (.tmp 305) (.tmp 306) 23 40 (.agg #[(.int .i64 0), (.int .i64 0)]) 16 rfl Try.underlying23 info40 rfl (by decide) (by omega) (.slice A5 p.length c5) p lb' _ _ _ (fun _ => True) (fun _ => False) rfl rfl ?aO ?aR (fun _ _ h => h) (fun _ h => h.elim) ?aF ?aB ?aS ?aL ?_
        case aR => exact Kd.C_below hZp.out.2.2.2.2.1 hb305
        case aB => exact hb305
        case aF => exact (fun _ _ => trivial)
        case aO => exact ho305
        case aS => exact (below_size hb305)
        case aL => (have := HP.out; have := HLb.out.1; omega)
        intro v307 wd ho307 hb307 hg_ hn_
        clear hg_ hn_
        obtain ⟨A7b, c7b, rfl⟩ := Kd.R_slice ho307
        refine hK.out _ _ trivial (fun hHeld => ?_)
        clear hK K
        refine norm_ (a' := ?_) ?_ ?_
        rotate_left
        · show Act.put _ (some 307) _ = _
          simp only [Act.put, List.setIfInBounds_toArray, List.set_cons_zero, List.set_cons_succ, i64_w, i32_w]
          rfl
        refine one_ (i := 12) (N := some 313) #[true, true, true, true, true, true, true, true, true, true, true, true, true, false, true] rfl rfl (by kernel_rfl) (by decide) (fun K hK => ?_)
        refine lit_any_step #[.slice Ap p.length cp, .slice Ab p.length cb, .slice A7b (p.length + lb'.length) c7b, .slice A10 m10 c10] 23 4 (by rfl) ?hr ?_
        case hr => first | (go_simp; done) | (go_simp; rfl)
        intro ad we hbe hle
        refine hK.out _ _ trivial (fun hHeld => ?_)
        clear hK K
        refine norm_ (a' := ?_) ?_ ?_
        rotate_left
        · show Act.put _ (some 313) _ = _
          simp only [Act.put, List.setIfInBounds_toArray, List.set_cons_zero, List.set_cons_succ, i64_w, i32_w]
          rfl
        refine pure_ (i := 13) (N := some 314) (v := ?_) (a' := ?_) #[true, true, true, true, true, true, true, true, true, true, true, true, true, true, true] rfl rfl (by kernel_rfl) (fun _ _ _ h => h) (Or.inl ⟨by rfl, ?_⟩) ?_ ?_
        rotate_left
        · intro w'
          go_simp
          with_reducible rfl
        rotate_left
        · simp only [Act.put, List.setIfInBounds_toArray, List.set_cons_zero, List.set_cons_succ, i64_w, i32_w]
          rfl
        refine done_ (by kernel_rfl) ?_

        go_wp2_with fail
        go_meet
        case rel =>
          refine ⟨ad, rfl, rfl, rfl, ⟨below_step hb307 (by repeat (first | exact hbe | exact Below.refl _ _ | apply pw_below_drewN | apply below_drew1)), fun w' hb i hi => ?_⟩⟩
          obtain ⟨y1, y2, y3, y4, y5, y6, y7, y8⟩ := hZp.out
          have hb0 := below_step hbe hb
          have hbc := below_step hb307 hb0
          have hpl := HP.out
          have hm10 := HM10.out
          rcases i with _ | _ | _ | _ | i
          · exact ⟨Ap, cp, p, hle w' hb 0 _ rfl, y1, Kd.C_below y2 hbc, by omega⟩
          · exact ⟨Ab, cb, lb', hle w' hb 1 _ (by rw [← y4]; rfl), by omega, by rw [← y4]; exact Kd.C_below y5 hbc, by omega⟩
          · exact ⟨A7b, c7b, p ++ lb', hle w' hb 2 _ (by rw [List.length_append]; rfl), (Kd.R_reads' ho307).2.1, Kd.C_below (Kd.R_reads' ho307).2.2 hb0, by simp; omega⟩
          · exact ⟨A10, c10, l10.take m10, hle w' hb 3 _ (by rw [← y6]; rfl), by omega, by rw [← y6]; exact Kd.C_below y8 hbc, by omega⟩
          · omega
      case rest =>
        obtain ⟨ad, rfl, rfl, rfl, HE6⟩ := hcut
        go_wp2
        refine loop6 Ah (some ⟨go, 0, none⟩) A6 h lo (l6.take m6) h.length h.length m6 ch co c6 ad _ _ ⟨fun w' hb => by obtain ⟨_, r⟩ := hL6.out w' (below_step (below_step HB811.out HE6.out.1) hb); exact ⟨rfl, r⟩⟩ ⟨HE6.out.2⟩ ?_
        intro Xm X1r X1t X8r X8s X8t X8u X8v X8w X8x X8y X8z X90 X91 X92 X93 X94 X95 X96 X97 X98 X99 X9a X9b X9c X9d X9e X9f X9g X9h X9i X9j X9k X9l w20 hb20
        go_wp2
        go_ret
        exact ⟨rfl, below_step (below_step (below_step hCh.out.2.2.2.2.2.2.2.2.2.2 HB811.out) HE6.out.1) (by repeat (first | exact hb20 | exact Below.refl _ _ | apply pw_below_drewN | apply below_drew1))⟩

end Go.Proofs.Ytmiahmpobpokmaa.V24
