/- BitsPuts: bits with a number's behind them, and the number of some, or the errors, are the document's, and the argument stays; for any bytes and numbers: no condition. -/
import Derived.Test.YtccnicigldjcdaaQPut
import Derived.Test.YtccnicigldjcdaaPBitsx18
namespace Go.Proofs.Ytccnicigldjcdaa.Pure
open Go.RowKit Go.Proofs.Ytccnicigldjcdaa.H Go.Proofs.Ytccnicigldjcdaa.Q Go.Proofs.Ytccnicigldjcdaa.PBits Go.Proofs.YtccnicigldjcdaaW.PrintWords Go.Proofs.YtccnicigldjcdaaW.PrintMore
set_option linter.unusedVariables false

theorem puts_loop (l : List Int) (s : ByteArray) (hs : s.toList = (strOfNums l).toList) (d : Nat) : ∀ (x : List Int) (i : Nat), x.length ≤ 1000000000 → i + d = x.length →
    Ev (fun k => reedpipelaw01_BitsPuts.l0 k l s x true i) true := by
  induction d with
  | zero =>
    intro x i hx hi
    refine Ev.succ ?_
    simp only [reedpipelaw01_BitsPuts.l0]
    refine Ev.neg (by omega) (Ev.pos (by trivial) ?_)
    rw [hs]
    simpa using Ev.now true
  | succ d ih =>
    intro x i hx hi
    refine Ev.succ ?_
    simp only [reedpipelaw01_BitsPuts.l0]
    refine Ev.pos (by omega) (Ev.pos (by omega) ?_)
    rw [wrap64_of (by omega) (by omega)]
    have := ih (x.set i ((rd x i + 1) % 256)) (i + 1) (by simpa using hx) (by simp; omega)
    simpa using this

theorem BitsPuts : reedpipelaw01_BitsPuts.Pure := by
  intro l a1 a2 a3 hm hl hw h1 h2 h3
  have hb := bytes_of_wf hw
  refine Ev.rounds ?_
  unfold reedpipelaw01_BitsPuts.f
  by_cases h0 : (l.length : Int) > 10000
  · exact Ev.pos h0 (Ev.now _)
  refine Ev.neg h0 ?_
  rw [put_is l a1 a3 (by omega)]
  refine Ev.bind (Ev.now _) (Ev.bind (ref_put_is l a1 a3 (by omega) (i64_of_wf h1)) (Ev.bind (get_is l a2 a3 hb (by omega) (i64_of_wf h2) (i64_of_wf h3)) (Ev.bind (ref_get_is l a2 a3 hb (by omega) (i64_of_wf h2) (i64_of_wf h3)) ?_)))
  refine Ev.pos rfl (Ev.pos rfl (Ev.pos rfl (Ev.pos rfl ?_)))
  rw [beq_self_eq_true]
  refine Ev.succ ?_
  simp only [reedpipelaw01_BitsPuts.j0]
  refine puts_loop l _ rfl (putOf l a1 a3).1.length _ 0 ?_ (by simp)
  unfold putOf
  split
  · rename_i h
    rw [List.length_append, bitsOf_length]
    omega
  · simp
end Go.Proofs.Ytccnicigldjcdaa.Pure
