/- 'alive' of the statements on synth; SynthNames' own walk. -/
import Derived.Test.YtpeacnljdkejmaaGreatHSynthNil
import Derived.Test.YtpeacnljdkejmaaGreatHLapCheck
import Derived.Sort.AtCall
namespace Go.Proofs.YtpeacnljdkejmaaGreat.H
open Go.RowKit Go.Shelf Go.Proofs.YtpeacnljdkejmaaGreatW.PrintWords Go.Proofs.YtpeacnljdkejmaaGreatW.PrintMore
set_option linter.unusedVariables false
set_option linter.unusedSimpArgs false

theorem check_silence : lap_Check.f (List.replicate 256 0) 0 0 = some 0 := by decide +kernel

set_option maxRecDepth 100000 in
set_option maxHeartbeats 2000000 in
theorem alive_calls (w : World) : Calls Tryz.prog 9 #[] w fun e w' => e = .returned (.bool true) ∧ Below w.heap.size w w' := by
  have hn := PSynthNames.synth_New.calls 5 1 [⟨List.replicate 256 0, 0, 0⟩] 0 w new1
  have hk := check_silence
  obtain ⟨z, hz⟩ : ∃ z, z = List.replicate 256 (0 : Int) := ⟨_, rfl⟩
  rw [← hz] at hn hk
  clear hz
  go_enter Tryz.func9, Tryz.ntmps9
  go_wp2_with (first
    | (go_at_call 7; go_must (refine hn.mono ?_; rintro e w1 ⟨v, rfl, ho, hb1⟩); obtain ⟨A, c, rfl, hc, hC⟩ := Kd.R_reads (Kd.S_R ho); obtain ⟨ad, A0, c0, rfl, e0, e1, e2, l0, g0⟩ := PSynthNames.at_T52 hC 0 (by omega) (by simp); simp only [show PSynthNames.rd_T52 [⟨z, 0, 0⟩] 0 = ⟨z, 0, 0⟩ from rfl] at e0 e1 e2 l0 g0; have z0 : ad.add (Int.toNat 0 * 3) = ad := (by simp [go_sem]); rw [z0] at e0 e1 e2; clear z0; have G0 := Aside0.mk g0; have HB1 := Aside0.mk hb1; clear g0 hb1 hC ho)
    | (go_at_call 8; go_must (refine (all_nil w1).mono ?_; rintro e w2 ⟨⟨b, rfl, e3⟩, hb2⟩); have q0 := pw_cell_below hb2 e0; have q1 := pw_cell_below hb2 e1; have q2 := pw_cell_below hb2 e2; clear e0 e1 e2; have HB2 := Aside0.mk hb2; clear hb2)
    | (go_at_call 22; go_must (refine (lap_Check.calls A0 c0 z 0 0 0 w2 (Kd.C_below G0.out HB2.out) l0 hk).mono ?_; rintro e w3 ⟨rfl, hb3⟩); have e4 := pw_cell_below hb3 e3; have HB3 := Aside0.mk hb3; clear hb3))
  go_ret
  exact ⟨rfl, below_then (below_then HB1.out HB1.out.size HB2.out) (Nat.le_trans HB1.out.size HB2.out.size) HB3.out⟩

set_option maxRecDepth 100000 in
set_option maxHeartbeats 2000000 in
theorem synthNames_calls (w : World) : Calls Tryz.prog 3 #[] w fun e w' => e = .returned (.bool true) ∧ Below w.heap.size w w' := by
  have hn := PSynthNames.synth_New.calls 5 3 [] 2 w new3
  go_enter Tryz.func3, Tryz.ntmps3
  go_wp2_with (first
    | (go_at_call 7; go_must (refine hn.mono ?_; rintro e w1 ⟨v, rfl, ho, hb1⟩); have HB1 := Aside0.mk hb1; clear hb1 ho)
    | (go_at_call_has 8 (Value.int .i64 3); go_must (refine (all_bad3 w1).mono ?_; rintro e w2 ⟨rfl, hb2⟩); have HB2 := Aside0.mk hb2; clear hb2)
    | (go_at_call_has 8 (Value.int .i64 12); go_must (refine (all_bad12 w2).mono ?_; rintro e w3 ⟨rfl, hb3⟩); have HB3 := Aside0.mk hb3; clear hb3)
    | (go_at_call 9; go_must (refine (alive_calls w3).mono ?_; rintro e w4 ⟨rfl, hb4⟩); have HB4 := Aside0.mk hb4; clear hb4))
  go_ret
  have h2 := below_then HB1.out HB1.out.size HB2.out
  have h3 := below_then h2 h2.size HB3.out
  exact ⟨rfl, below_then h3 h3.size HB4.out⟩
end Go.Proofs.YtpeacnljdkejmaaGreat.H
