/- The chapter's first examples: that the statements are alive. -/
import Derived.Test.YtccnicigldjcdaaQGet
import Derived.Test.YtccnicigldjcdaaPBitsx19
namespace Go.Proofs.Ytccnicigldjcdaa.Q
open Go.RowKit Go.Proofs.Ytccnicigldjcdaa.H Go.Proofs.Ytccnicigldjcdaa.PBits Go.Proofs.YtccnicigldjcdaaW.PrintWords Go.Proofs.YtccnicigldjcdaaW.PrintMore
theorem alive_is : Ev (fun k => reedpipelaw01_alive.f k) true := Ev.of (fun k => reedpipelaw01_alive.mono k) (k := 100) (by decide +kernel)
end Go.Proofs.Ytccnicigldjcdaa.Q
