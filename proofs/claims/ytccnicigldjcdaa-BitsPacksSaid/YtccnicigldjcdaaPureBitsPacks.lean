/- BitsPacks: bits as bytes, and bytes as bits, or the errors, are the document's, and the argument stays; for any bytes: no condition. -/
import Derived.Test.YtccnicigldjcdaaQPack
import Derived.Test.YtccnicigldjcdaaPBitsx9
namespace Go.Proofs.Ytccnicigldjcdaa.Pure
open Go.RowKit Go.Proofs.Ytccnicigldjcdaa.H Go.Proofs.Ytccnicigldjcdaa.Q Go.Proofs.Ytccnicigldjcdaa.PBits Go.Proofs.YtccnicigldjcdaaW.PrintWords Go.Proofs.YtccnicigldjcdaaW.PrintMore
theorem BitsPacks : reedpipelaw01_BitsPacks.Pure := by
  intro l hm hl hw
  have hb := bytes_of_wf hw
  refine Ev.rounds ?_
  unfold reedpipelaw01_BitsPacks.f
  by_cases h0 : (l.length : Int) > 10000
  · exact Ev.pos h0 (Ev.now _)
  refine Ev.neg h0 (Ev.bind (pack_is hb (by omega)) (Ev.bind (ref_pack_is hb (by omega)) ?_))
  rw [unpack_is hb]
  refine Ev.bind (Ev.now _) (Ev.bind (ref_unpack_is hb (by omega)) ?_)
  refine Ev.pos rfl (Ev.pos rfl (Ev.pos rfl (Ev.pos rfl ?_)))
  rw [beq_self_eq_true]
  exact Ev.now _
end Go.Proofs.Ytccnicigldjcdaa.Pure
