/- The chapter's examples hold: evaluated. -/
import Derived.Test.YtmiahmpobpokmaaPx0
import Derived.Test.YtmiahmpobpokmaaPx12
namespace Go.Proofs.Ytmiahmpobpokmaa.T24
open Go.RowKit Go.Proofs.Ytmiahmpobpokmaa.P Go.Proofs.YtmiahmpobpokmaaW.PrintWords
theorem sane_at : dialtonelaw24_sane.f 30 = some true := by decide +kernel
theorem sane_ev : Ev (fun k => dialtonelaw24_sane.f k) true := Ev.of (fun k => dialtonelaw24_sane.mono k) (k := 30) sane_at
end Go.Proofs.Ytmiahmpobpokmaa.T24
