/- BitsNames: the limits and errors have their numbers, and the chapter's examples are so; no condition. -/
import Derived.Test.YtccnicigldjcdaaPBitsx22
namespace Go.Proofs.Ytccnicigldjcdaa.Pure
open Go.RowKit Go.Proofs.Ytccnicigldjcdaa.H Go.Proofs.Ytccnicigldjcdaa.PBits Go.Proofs.YtccnicigldjcdaaW.PrintWords Go.Proofs.YtccnicigldjcdaaW.PrintMore
theorem BitsNames : reedpipelaw01_BitsNames.Pure := ⟨100, by decide +kernel⟩
end Go.Proofs.Ytccnicigldjcdaa.Pure
