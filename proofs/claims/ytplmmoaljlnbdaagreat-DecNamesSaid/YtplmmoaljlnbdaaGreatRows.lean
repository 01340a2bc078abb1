/-
  No cell of these rows narrows 'for every input' (looked for: loops, veiled, ifaces, maps, wideKeys, modest, calm, conditions, laid).
  DERIVED. THE GIVEN ROWS OF THIS SEAT. 6 by the template 'for every input the law returns true; each argument reads behind the call as it read before'; 0 by the template 'total and deterministic' (their statements: YtplmmoaljlnbdaaGreatTotals.lean).
  GIVEN WITH THE SEED: the statements are not yours to turn. If you find one false, say at which input.
  Laid BY PROGRAM, IN A SANDBOX (cutbox-rows.mjs): the forced cells as the released guide's own fill.sh prints them over the translation 098329fa01dbe33d… (all of the seat's roots in one cut). By AI agents, Wed Nov 11 2026. No macro, syntax, notation, axiom, sorry.
-/
import Derived.Test.YtplmmoaljlnbdaaGreatChecked
import GoSem.Claim
import GoSem.ClaimJoined
import GoSem.ClaimMapViews
import Derived.JoinedTies
import Derived.KernelRfl
namespace Go.Proofs.YtplmmoaljlnbdaaGreat
/- THE CELL 'sum', in the pinned program and in every row, IS THE sha256 OF THE DUMP (.gsa) THAT YtplmmoaljlnbdaaGreatProg.lean LOADS. Nothing in Lean hashes anything: it is a label: what it is worth is what the hold of that sum in a sandbox is worth. -/
noncomputable def Tryz.pinned : Pinned := { name := "ytplmmoaljlnbdaagreat", sum := "098329fa01dbe33db03ae95e5e010872fd1aa79f09c5e133c33217fb1c8241cb", checked := Tryz.checked }
namespace Rows
def none {H : Type} : Left H := { results := [], args := [] }

/-- 'reedpipelaw29.SynthTwo': WHATEVER THE INPUT: true; the input reads as it did. -/
def synthTwoSpec : ChangeSpec := { name := "synthTwo", fn := fun _ => fun
  | [d1, d2, d3, d4] => { results := [.lit (.bool true)], args := [d1, d2, d3, d4] }
  | _ => none }
def synthTwoRow : OpenClaim := { program := "ytplmmoaljlnbdaagreat", sum := "098329fa01dbe33db03ae95e5e010872fd1aa79f09c5e133c33217fb1c8241cb", func := "reedpipe/reedpipelaw29.SynthTwo", spec := "synthTwo", unfollowed := true, recurses := true, apart := false }
def SynthTwoSaid : Prop := synthTwoRow.holds Tryz.pinned (OpenSpec.ofChange synthTwoSpec)

/-- ITS FALSE NEIGHBOUR: 'it returns false'. Refute it at one input. -/
def synthTwoWrong : ChangeSpec := { name := "synthTwo", fn := fun _ => fun
  | [d1, d2, d3, d4] => { results := [.lit (.bool false)], args := [d1, d2, d3, d4] }
  | _ => none }
def SynthTwoWrongFalsely : Prop := synthTwoRow.holds Tryz.pinned (OpenSpec.ofChange synthTwoWrong)

/-- 'reedpipelaw29.SynthApart': WHATEVER THE INPUT: true; the input reads as it did. -/
def synthApartSpec : ChangeSpec := { name := "synthApart", fn := fun _ => fun
  | [d1, d2] => { results := [.lit (.bool true)], args := [d1, d2] }
  | _ => none }
def synthApartRow : OpenClaim := { program := "ytplmmoaljlnbdaagreat", sum := "098329fa01dbe33db03ae95e5e010872fd1aa79f09c5e133c33217fb1c8241cb", func := "reedpipe/reedpipelaw29.SynthApart", spec := "synthApart", unfollowed := true, recurses := true, apart := false }
def SynthApartSaid : Prop := synthApartRow.holds Tryz.pinned (OpenSpec.ofChange synthApartSpec)

/-- ITS FALSE NEIGHBOUR: 'it returns false'. Refute it at one input. -/
def synthApartWrong : ChangeSpec := { name := "synthApart", fn := fun _ => fun
  | [d1, d2] => { results := [.lit (.bool false)], args := [d1, d2] }
  | _ => none }
def SynthApartWrongFalsely : Prop := synthApartRow.holds Tryz.pinned (OpenSpec.ofChange synthApartWrong)

/-- 'reedpipelaw29.SynthAhead': WHATEVER THE INPUT: true; the input reads as it did. -/
def synthAheadSpec : ChangeSpec := { name := "synthAhead", fn := fun _ => fun
  | [d1, d2, d3] => { results := [.lit (.bool true)], args := [d1, d2, d3] }
  | _ => none }
def synthAheadRow : OpenClaim := { program := "ytplmmoaljlnbdaagreat", sum := "098329fa01dbe33db03ae95e5e010872fd1aa79f09c5e133c33217fb1c8241cb", func := "reedpipe/reedpipelaw29.SynthAhead", spec := "synthAhead", unfollowed := true, recurses := true, apart := false }
def SynthAheadSaid : Prop := synthAheadRow.holds Tryz.pinned (OpenSpec.ofChange synthAheadSpec)

/-- ITS FALSE NEIGHBOUR: 'it returns false'. Refute it at one input. -/
def synthAheadWrong : ChangeSpec := { name := "synthAhead", fn := fun _ => fun
  | [d1, d2, d3] => { results := [.lit (.bool false)], args := [d1, d2, d3] }
  | _ => none }
def SynthAheadWrongFalsely : Prop := synthAheadRow.holds Tryz.pinned (OpenSpec.ofChange synthAheadWrong)

/-- 'reedpipelaw31.DecAhead': WHATEVER THE INPUT: true; the input reads as it did. -/
def decAheadSpec : ChangeSpec := { name := "decAhead", fn := fun _ => fun
  | [d1, d2, d3] => { results := [.lit (.bool true)], args := [d1, d2, d3] }
  | _ => none }
def decAheadRow : OpenClaim := { program := "ytplmmoaljlnbdaagreat", sum := "098329fa01dbe33db03ae95e5e010872fd1aa79f09c5e133c33217fb1c8241cb", func := "reedpipe/reedpipelaw31.DecAhead", spec := "decAhead", unfollowed := true, recurses := true, apart := false }
def DecAheadSaid : Prop := decAheadRow.holds Tryz.pinned (OpenSpec.ofChange decAheadSpec)

/-- ITS FALSE NEIGHBOUR: 'it returns false'. Refute it at one input. -/
def decAheadWrong : ChangeSpec := { name := "decAhead", fn := fun _ => fun
  | [d1, d2, d3] => { results := [.lit (.bool false)], args := [d1, d2, d3] }
  | _ => none }
def DecAheadWrongFalsely : Prop := decAheadRow.holds Tryz.pinned (OpenSpec.ofChange decAheadWrong)

/-- 'reedpipelaw31.DecRecovers': WHATEVER THE INPUT: true; the input reads as it did. -/
def decRecoversSpec : ChangeSpec := { name := "decRecovers", fn := fun _ => fun
  | [d1, d2, d3, d4] => { results := [.lit (.bool true)], args := [d1, d2, d3, d4] }
  | _ => none }
def decRecoversRow : OpenClaim := { program := "ytplmmoaljlnbdaagreat", sum := "098329fa01dbe33db03ae95e5e010872fd1aa79f09c5e133c33217fb1c8241cb", func := "reedpipe/reedpipelaw31.DecRecovers", spec := "decRecovers", unfollowed := true, recurses := true, apart := false }
def DecRecoversSaid : Prop := decRecoversRow.holds Tryz.pinned (OpenSpec.ofChange decRecoversSpec)

/-- ITS FALSE NEIGHBOUR: 'it returns false'. Refute it at one input. -/
def decRecoversWrong : ChangeSpec := { name := "decRecovers", fn := fun _ => fun
  | [d1, d2, d3, d4] => { results := [.lit (.bool false)], args := [d1, d2, d3, d4] }
  | _ => none }
def DecRecoversWrongFalsely : Prop := decRecoversRow.holds Tryz.pinned (OpenSpec.ofChange decRecoversWrong)

/-- 'reedpipelaw31.DecNames': WHATEVER THE INPUT: true; the input reads as it did. -/
def decNamesSpec : ChangeSpec := { name := "decNames", fn := fun _ => fun
  | [] => { results := [.lit (.bool true)], args := [] }
  | _ => none }
def decNamesRow : OpenClaim := { program := "ytplmmoaljlnbdaagreat", sum := "098329fa01dbe33db03ae95e5e010872fd1aa79f09c5e133c33217fb1c8241cb", func := "reedpipe/reedpipelaw31.DecNames", spec := "decNames", inPlace := ["internal/bytealg.IndexByte"], unfollowed := true, recurses := true, apart := false }
def DecNamesSaid : Prop := decNamesRow.holds Tryz.pinned (OpenSpec.ofChange decNamesSpec)

/-- ITS FALSE NEIGHBOUR: 'it returns false'. Refute it at one input. -/
def decNamesWrong : ChangeSpec := { name := "decNames", fn := fun _ => fun
  | [] => { results := [.lit (.bool false)], args := [] }
  | _ => none }
def DecNamesWrongFalsely : Prop := decNamesRow.holds Tryz.pinned (OpenSpec.ofChange decNamesWrong)

/- THE SECOND FORM. 'bulk': how many values and letters a reading holds, each counted each time it is reached (what is shared counts as often as it is met; a slice's spare places count too). A statement '..UptoSaid' is the law's where the arguments, and the package variables that the reading takes, are together of bulk at most 1048576: NARROWER than '..Said'. Prove '..Said' where nothing that the law and all that it calls make is longer than what came in: it says more and counts as full. Else prove '..UptoSaid'. A law counts once. -/
mutual
def uptoBulk {H : Type} : DataW H → Nat
  | .lit (.string bytes) => bytes.length + 1
  | .lit _ => 1
  | .nil => 1
  | .ptr d => uptoBulk d + 1
  | .slice elems spare => uptoBulkAll elems + uptoBulkAll spare + 1
  | .agg parts => uptoBulkAll parts + 1
  | .iface _ d => uptoBulk d + 1
  | .map entries => uptoBulkEntries entries + 1
  | .held _ => 1
def uptoBulkAll {H : Type} : List (DataW H) → Nat
  | [] => 0
  | d :: r => uptoBulk d + uptoBulkAll r
def uptoBulkEntries {H : Type} : List (Lit × DataW H) → Nat
  | [] => 0
  | x :: r => uptoBulkEntry x + uptoBulkEntries r
def uptoBulkEntry {H : Type} : Lit × DataW H → Nat
  | (.string bytes, d) => bytes.length + uptoBulk d + 1
  | (_, d) => uptoBulk d + 1
 end
def uptoSmall : (H : Type) → List (DataW H) → Bool := fun _ ds => decide (uptoBulkAll ds ≤ 1048576)
def OpenSpec.upto (s : _root_.Go.ChangeSpec) : _root_.Go.OpenSpec := { _root_.Go.OpenSpec.ofChange s with cond := some uptoSmall }

/-- 'reedpipelaw29.SynthTwo', WHERE WHAT IT READS IS OF BULK AT MOST 1048576: true; the input reads as it did. -/
def synthTwoUptoRow : OpenClaim := { program := "ytplmmoaljlnbdaagreat", sum := "098329fa01dbe33db03ae95e5e010872fd1aa79f09c5e133c33217fb1c8241cb", func := "reedpipe/reedpipelaw29.SynthTwo", spec := "synthTwo", unfollowed := true, recurses := true, apart := false, narrowed := true }
def SynthTwoUptoSaid : Prop := synthTwoUptoRow.holds Tryz.pinned (OpenSpec.upto synthTwoSpec)

/-- 'reedpipelaw29.SynthApart', WHERE WHAT IT READS IS OF BULK AT MOST 1048576: true; the input reads as it did. -/
def synthApartUptoRow : OpenClaim := { program := "ytplmmoaljlnbdaagreat", sum := "098329fa01dbe33db03ae95e5e010872fd1aa79f09c5e133c33217fb1c8241cb", func := "reedpipe/reedpipelaw29.SynthApart", spec := "synthApart", unfollowed := true, recurses := true, apart := false, narrowed := true }
def SynthApartUptoSaid : Prop := synthApartUptoRow.holds Tryz.pinned (OpenSpec.upto synthApartSpec)

/-- 'reedpipelaw29.SynthAhead', WHERE WHAT IT READS IS OF BULK AT MOST 1048576: true; the input reads as it did. -/
def synthAheadUptoRow : OpenClaim := { program := "ytplmmoaljlnbdaagreat", sum := "098329fa01dbe33db03ae95e5e010872fd1aa79f09c5e133c33217fb1c8241cb", func := "reedpipe/reedpipelaw29.SynthAhead", spec := "synthAhead", unfollowed := true, recurses := true, apart := false, narrowed := true }
def SynthAheadUptoSaid : Prop := synthAheadUptoRow.holds Tryz.pinned (OpenSpec.upto synthAheadSpec)

/-- 'reedpipelaw31.DecAhead', WHERE WHAT IT READS IS OF BULK AT MOST 1048576: true; the input reads as it did. -/
def decAheadUptoRow : OpenClaim := { program := "ytplmmoaljlnbdaagreat", sum := "098329fa01dbe33db03ae95e5e010872fd1aa79f09c5e133c33217fb1c8241cb", func := "reedpipe/reedpipelaw31.DecAhead", spec := "decAhead", unfollowed := true, recurses := true, apart := false, narrowed := true }
def DecAheadUptoSaid : Prop := decAheadUptoRow.holds Tryz.pinned (OpenSpec.upto decAheadSpec)

/-- 'reedpipelaw31.DecRecovers', WHERE WHAT IT READS IS OF BULK AT MOST 1048576: true; the input reads as it did. -/
def decRecoversUptoRow : OpenClaim := { program := "ytplmmoaljlnbdaagreat", sum := "098329fa01dbe33db03ae95e5e010872fd1aa79f09c5e133c33217fb1c8241cb", func := "reedpipe/reedpipelaw31.DecRecovers", spec := "decRecovers", unfollowed := true, recurses := true, apart := false, narrowed := true }
def DecRecoversUptoSaid : Prop := decRecoversUptoRow.holds Tryz.pinned (OpenSpec.upto decRecoversSpec)

/-- 'reedpipelaw31.DecNames', WHERE WHAT IT READS IS OF BULK AT MOST 1048576: true; the input reads as it did. -/
def decNamesUptoRow : OpenClaim := { program := "ytplmmoaljlnbdaagreat", sum := "098329fa01dbe33db03ae95e5e010872fd1aa79f09c5e133c33217fb1c8241cb", func := "reedpipe/reedpipelaw31.DecNames", spec := "decNames", inPlace := ["internal/bytealg.IndexByte"], unfollowed := true, recurses := true, apart := false, narrowed := true }
def DecNamesUptoSaid : Prop := decNamesUptoRow.holds Tryz.pinned (OpenSpec.upto decNamesSpec)

end Rows
end Go.Proofs.YtplmmoaljlnbdaaGreat
