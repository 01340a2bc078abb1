/- Gathered by a program (wip/merge.py): PB0x227, HPlay, PB0x3, HScanNil, HDecLaw. -/
import Derived.Sort.AtCall
import Derived.Deep.QuietTactic
import Derived.BigQuiet
import Derived.WalkMore
import Derived.Deep.RegionHeld3
import Derived.RegionTactic
import Derived.ChangeAlike
import Derived.BigRegion
import Derived.Test.YtplmmoaljlnbdaaGreatMDnx2
import Derived.Test.YtplmmoaljlnbdaaGreatMDnx7
import Derived.Test.YtplmmoaljlnbdaaGreatMDnx8

section
-- Written by a program of this session (wip/hprint.py), out of the translation's own print.
namespace Go.Proofs.YtplmmoaljlnbdaaGreat.Hd
open Go.RowKit Go.Proofs.YtplmmoaljlnbdaaGreatW.PrintWords Go.Proofs.YtplmmoaljlnbdaaGreatW.PrintLast Go.Proofs.YtplmmoaljlnbdaaGreatW.PrintMore Go.Proofs.YtplmmoaljlnbdaaGreat.Hd
attribute [local go_sem] max2_int min2_int max_two min_two max_three min_three max_four min_four   -- for this text's walks alone
set_option linter.unusedVariables false
set_option linter.unusedSimpArgs false

/-! ### dec_odd: function 43 -/
def dec_odd.f (a0_0 : Int) (a0_1 : Int) (a0_2 : Bool) (a0_3 : Int) : Option (Bool) := if a0_0 < 0 then (some true) else (if a0_0 > 11 then (some true) else (if a0_1 < 1 then (some true) else (some (decide (a0_1 > 2)))))
set_option maxHeartbeats 8000000 in
set_option maxRecDepth 100000 in
theorem dec_odd.calls (a0_0 : Int) (a0_1 : Int) (a0_2 : Bool) (a0_3 : Int) (r : Bool) (w : World) (h : dec_odd.f a0_0 a0_1 a0_2 a0_3 = some r) :
    Calls Tryz.prog 43 #[.agg #[.int .i64 a0_0, .int .i64 a0_1, .bool a0_2, .int .i64 a0_3]] w fun e w' => e = .returned (.bool r) ∧ Below w.heap.size w w' := by
  have hu23 := Tryz.underlying23
  have HB := Aside0.mk (Below.refl w.heap.size w)
  have H : (if a0_0 < 0 then (some true) else (if a0_0 > 11 then (some true) else (if a0_1 < 1 then (some true) else (some (decide (a0_1 > 2)))))) = some r := h
  clear h
  by_cases c2 : a0_0 < 0
  · rw [if_pos c2] at H
    have c2b0 : decide (a0_0 < 0) = true := decide_eq_true c2
    clear c2
    obtain rfl := Option.some.inj H
    go_enter Tryz.func43, Tryz.ntmps43
    go_wp2_with (first | ((with_reducible refine gate_dst (N := 1) rfl ?_); refine box_event ?hg (N := 1) ?hd (cs := #[.int .i64 a0_0, .int .i64 a0_1, .bool a0_2, .int .i64 a0_3]) (t := 23) ?hr ?_; (case hd => rfl); (case hg => rfl); (case hr => first | (go_simp; done) | (go_simp; rfl)); intro gb323 hg w3 hbox hb; have n0_ := Aside0.mk (below_step (by repeat (first | (with_reducible first | exact HB.out | apply below_alloc | apply pw_below_drewN | apply below_drew1) | exact HB.out)) hb); have n1_ := Aside0.mk (hbox); have n2_ := Aside0.mk ((by rw [hg]; exact (below_size (by repeat (first | (with_reducible first | exact HB.out | apply below_alloc | apply pw_below_drewN | apply below_drew1) | exact HB.out))) : w.heap.size ≤ gb323)); have n3_ := Aside0.mk ((by rw [hg]; exact (below_size (by repeat (first | (with_reducible first | exact HB.out | apply below_alloc | apply pw_below_drewN | apply below_drew1) | exact HB.out))) : w.heap.size ≤ gb323)); clear HB; have HB := n0_; have BK323 := n1_; have GW323 := n2_; have GE323 := n3_; clear n0_ n1_ n2_ n3_; clear hb hbox hg; have hcz4_0 : w3.cell? ⟨gb323, 0, none⟩ = some (.int .i64 a0_0) := (blk_cell BK323.out 0).trans rfl; have hcz4_1 : w3.cell? ⟨gb323, 1, none⟩ = some (.int .i64 a0_1) := (blk_cell BK323.out 1).trans rfl; have hcz4_2 : w3.cell? ⟨gb323, 2, none⟩ = some (.bool a0_2) := (blk_cell BK323.out 2).trans rfl; have hcz4_3 : w3.cell? ⟨gb323, 3, none⟩ = some (.int .i64 a0_3) := (blk_cell BK323.out 3).trans rfl; have hfz4_0 := blk_frozen BK323.out 0; have hfz4_1 := blk_frozen BK323.out 1; have hfz4_2 := blk_frozen BK323.out 2; have hfz4_3 := blk_frozen BK323.out 3))
    go_ret
    exact ⟨by first | rfl | (simp [errW_none, errW_some] <;> rfl) | (simp [*, errW_none, errW_some] <;> rfl), by repeat (first | (with_reducible first | exact HB.out | apply below_alloc | apply pw_below_drewN | apply below_drew1 | refine below_set ?_ GE323.out) | exact HB.out)⟩
  · rw [if_neg c2] at H
    have c2b0 : decide (a0_0 < 0) = false := decide_eq_false c2
    clear c2
    by_cases c5 : a0_0 > 11
    · rw [if_pos c5] at H
      have c5b0 : decide (11 < a0_0) = true := decide_eq_true c5
      clear c5
      obtain rfl := Option.some.inj H
      go_enter Tryz.func43, Tryz.ntmps43
      go_wp2_with (first | ((with_reducible refine gate_dst (N := 1) rfl ?_); refine box_event ?hg (N := 1) ?hd (cs := #[.int .i64 a0_0, .int .i64 a0_1, .bool a0_2, .int .i64 a0_3]) (t := 23) ?hr ?_; (case hd => rfl); (case hg => rfl); (case hr => first | (go_simp; done) | (go_simp; rfl)); intro gb323 hg w6 hbox hb; have n0_ := Aside0.mk (below_step (by repeat (first | (with_reducible first | exact HB.out | apply below_alloc | apply pw_below_drewN | apply below_drew1) | exact HB.out)) hb); have n1_ := Aside0.mk (hbox); have n2_ := Aside0.mk ((by rw [hg]; exact (below_size (by repeat (first | (with_reducible first | exact HB.out | apply below_alloc | apply pw_below_drewN | apply below_drew1) | exact HB.out))) : w.heap.size ≤ gb323)); have n3_ := Aside0.mk ((by rw [hg]; exact (below_size (by repeat (first | (with_reducible first | exact HB.out | apply below_alloc | apply pw_below_drewN | apply below_drew1) | exact HB.out))) : w.heap.size ≤ gb323)); clear HB; have HB := n0_; have BK323 := n1_; have GW323 := n2_; have GE323 := n3_; clear n0_ n1_ n2_ n3_; clear hb hbox hg; have hcz7_0 : w6.cell? ⟨gb323, 0, none⟩ = some (.int .i64 a0_0) := (blk_cell BK323.out 0).trans rfl; have hcz7_1 : w6.cell? ⟨gb323, 1, none⟩ = some (.int .i64 a0_1) := (blk_cell BK323.out 1).trans rfl; have hcz7_2 : w6.cell? ⟨gb323, 2, none⟩ = some (.bool a0_2) := (blk_cell BK323.out 2).trans rfl; have hcz7_3 : w6.cell? ⟨gb323, 3, none⟩ = some (.int .i64 a0_3) := (blk_cell BK323.out 3).trans rfl; have hfz7_0 := blk_frozen BK323.out 0; have hfz7_1 := blk_frozen BK323.out 1; have hfz7_2 := blk_frozen BK323.out 2; have hfz7_3 := blk_frozen BK323.out 3))
      go_ret
      exact ⟨by first | rfl | (simp [errW_none, errW_some] <;> rfl) | (simp [*, errW_none, errW_some] <;> rfl), by repeat (first | (with_reducible first | exact HB.out | apply below_alloc | apply pw_below_drewN | apply below_drew1 | refine below_set ?_ GE323.out) | exact HB.out)⟩
    · rw [if_neg c5] at H
      have c5b0 : decide (11 < a0_0) = false := decide_eq_false c5
      clear c5
      by_cases c8 : a0_1 < 1
      · rw [if_pos c8] at H
        have c8b0 : decide (a0_1 < 1) = true := decide_eq_true c8
        clear c8
        obtain rfl := Option.some.inj H
        go_enter Tryz.func43, Tryz.ntmps43
        go_wp2_with (first | ((with_reducible refine gate_dst (N := 1) rfl ?_); refine box_event ?hg (N := 1) ?hd (cs := #[.int .i64 a0_0, .int .i64 a0_1, .bool a0_2, .int .i64 a0_3]) (t := 23) ?hr ?_; (case hd => rfl); (case hg => rfl); (case hr => first | (go_simp; done) | (go_simp; rfl)); intro gb323 hg w9 hbox hb; have n0_ := Aside0.mk (below_step (by repeat (first | (with_reducible first | exact HB.out | apply below_alloc | apply pw_below_drewN | apply below_drew1) | exact HB.out)) hb); have n1_ := Aside0.mk (hbox); have n2_ := Aside0.mk ((by rw [hg]; exact (below_size (by repeat (first | (with_reducible first | exact HB.out | apply below_alloc | apply pw_below_drewN | apply below_drew1) | exact HB.out))) : w.heap.size ≤ gb323)); have n3_ := Aside0.mk ((by rw [hg]; exact (below_size (by repeat (first | (with_reducible first | exact HB.out | apply below_alloc | apply pw_below_drewN | apply below_drew1) | exact HB.out))) : w.heap.size ≤ gb323)); clear HB; have HB := n0_; have BK323 := n1_; have GW323 := n2_; have GE323 := n3_; clear n0_ n1_ n2_ n3_; clear hb hbox hg; have hcz10_0 : w9.cell? ⟨gb323, 0, none⟩ = some (.int .i64 a0_0) := (blk_cell BK323.out 0).trans rfl; have hcz10_1 : w9.cell? ⟨gb323, 1, none⟩ = some (.int .i64 a0_1) := (blk_cell BK323.out 1).trans rfl; have hcz10_2 : w9.cell? ⟨gb323, 2, none⟩ = some (.bool a0_2) := (blk_cell BK323.out 2).trans rfl; have hcz10_3 : w9.cell? ⟨gb323, 3, none⟩ = some (.int .i64 a0_3) := (blk_cell BK323.out 3).trans rfl; have hfz10_0 := blk_frozen BK323.out 0; have hfz10_1 := blk_frozen BK323.out 1; have hfz10_2 := blk_frozen BK323.out 2; have hfz10_3 := blk_frozen BK323.out 3))
        go_ret
        exact ⟨by first | rfl | (simp [errW_none, errW_some] <;> rfl) | (simp [*, errW_none, errW_some] <;> rfl), by repeat (first | (with_reducible first | exact HB.out | apply below_alloc | apply pw_below_drewN | apply below_drew1 | refine below_set ?_ GE323.out) | exact HB.out)⟩
      · rw [if_neg c8] at H
        have c8b0 : decide (a0_1 < 1) = false := decide_eq_false c8
        clear c8
        obtain rfl := Option.some.inj H
        go_enter Tryz.func43, Tryz.ntmps43
        go_wp2_with (first | ((with_reducible refine gate_dst (N := 1) rfl ?_); refine box_event ?hg (N := 1) ?hd (cs := #[.int .i64 a0_0, .int .i64 a0_1, .bool a0_2, .int .i64 a0_3]) (t := 23) ?hr ?_; (case hd => rfl); (case hg => rfl); (case hr => first | (go_simp; done) | (go_simp; rfl)); intro gb323 hg w11 hbox hb; have n0_ := Aside0.mk (below_step (by repeat (first | (with_reducible first | exact HB.out | apply below_alloc | apply pw_below_drewN | apply below_drew1) | exact HB.out)) hb); have n1_ := Aside0.mk (hbox); have n2_ := Aside0.mk ((by rw [hg]; exact (below_size (by repeat (first | (with_reducible first | exact HB.out | apply below_alloc | apply pw_below_drewN | apply below_drew1) | exact HB.out))) : w.heap.size ≤ gb323)); have n3_ := Aside0.mk ((by rw [hg]; exact (below_size (by repeat (first | (with_reducible first | exact HB.out | apply below_alloc | apply pw_below_drewN | apply below_drew1) | exact HB.out))) : w.heap.size ≤ gb323)); clear HB; have HB := n0_; have BK323 := n1_; have GW323 := n2_; have GE323 := n3_; clear n0_ n1_ n2_ n3_; clear hb hbox hg; have hcz12_0 : w11.cell? ⟨gb323, 0, none⟩ = some (.int .i64 a0_0) := (blk_cell BK323.out 0).trans rfl; have hcz12_1 : w11.cell? ⟨gb323, 1, none⟩ = some (.int .i64 a0_1) := (blk_cell BK323.out 1).trans rfl; have hcz12_2 : w11.cell? ⟨gb323, 2, none⟩ = some (.bool a0_2) := (blk_cell BK323.out 2).trans rfl; have hcz12_3 : w11.cell? ⟨gb323, 3, none⟩ = some (.int .i64 a0_3) := (blk_cell BK323.out 3).trans rfl; have hfz12_0 := blk_frozen BK323.out 0; have hfz12_1 := blk_frozen BK323.out 1; have hfz12_2 := blk_frozen BK323.out 2; have hfz12_3 := blk_frozen BK323.out 3))
        go_ret
        exact ⟨by first | rfl | (simp [errW_none, errW_some] <;> rfl) | (simp [*, errW_none, errW_some] <;> rfl), by repeat (first | (with_reducible first | exact HB.out | apply below_alloc | apply pw_below_drewN | apply below_drew1 | refine below_set ?_ GE323.out) | exact HB.out)⟩

end Go.Proofs.YtplmmoaljlnbdaaGreat.Hd
end

section
/- dec.Play of one channel: of no slots, and of two lost ones: silence. -/
namespace Go.Proofs.YtplmmoaljlnbdaaGreat.Hd
open Go.RowKit Go.Shelf Go.Proofs.YtplmmoaljlnbdaaGreatW.PrintWords Go.Proofs.YtplmmoaljlnbdaaGreatW.PrintMore Go.Proofs.YtplmmoaljlnbdaaGreatW.PrintLast
set_option linter.unusedVariables false
set_option linter.unusedSimpArgs false

theorem lap_of {w : World} {base : Nat} {v : Value} {z : List Int} {a b : Int} (h : Kd.R k49 49 w base (fun _ => True) v [⟨z, a, b⟩]) :
    ∃ (gl cl : Nat) (cells : Array Value) (tv : Value), v = .slice (some ⟨gl, 0, none⟩) 1 cl ∧ base ≤ gl ∧ w.heap[gl]? = some (.cells cells 49 (0, 0)) ∧ cells[0]? = some tv ∧ cells[1]? = some (.int .u8 a) ∧ cells[2]? = some (.int .u8 b) ∧ Kd.R (Kd.int .i64) 3 w 0 (fun _ => True) tv z := by
  obtain ⟨A, c, rfl⟩ := Kd.R_slice h
  cases A with
  | none =>
    obtain ⟨_, inner, ho, _⟩ := h
    rcases ho.2 with ⟨hv, h0⟩ | ⟨g, cap', cur, hv, _⟩
    · simp at hv
    · simp at hv
  | some ad =>
    obtain ⟨g, rfl⟩ := Kd.R_head h
    obtain ⟨cs, hl, hM, hcc⟩ := Kd.R_getA h ⟨z, a, b⟩ 0 (by omega) (by simp)
    obtain ⟨v0, rfl, hv0⟩ := k49_openM hM
    have hb := Kd.R_bound h
    obtain ⟨_, hge, _, _⟩ := hb.1 g (by simp [Value.ownBlock])
    obtain ⟨_, inner, ho, _⟩ := h
    obtain ⟨cells, hc⟩ := own_typed ho g (by simp [Value.ownBlock])
    have e0 := hcc 0 _ rfl
    have e1 := hcc 1 _ rfl
    have e2 := hcc 2 _ rfl
    simp [Addr.add] at e0 e1 e2
    exact ⟨g, c, cells, v0, rfl, hge, hc, (blk_cell hc 0).symm.trans e0, (blk_cell hc 1).symm.trans e1, (blk_cell hc 2).symm.trans e2, Kd.R_lower (Kd.R_mono hv0 (fun _ _ => trivial)) (Nat.zero_le _)⟩

theorem made_one (v : Value) : madeCells #[v] 1 = #[v] := by
  simp [madeCells]
  exact ⟨0, by first | rfl | decide +kernel, rfl⟩
theorem info_row : (Tryz.prog.info? 31).map (fun i => (i.zero, i.size, i.bytes)) = some (some (.slice none 0 0), 1, 24) := by kernel_rfl

set_option maxRecDepth 100000 in
set_option maxHeartbeats 2000000 in
theorem play_nil (w : World) : Calls Tryz.prog 25 #[.agg #[.int .i64 0, .int .i64 1, .bool false, .int .i64 0], .slice none 0 0] w fun e w' => (∃ gp, e = .returned (.tuple #[.slice (some ⟨gp, 0, none⟩) 1 1, .int .i64 0]) ∧ Boxed w' gp 31 (.slice none 0 0)) ∧ Below w.heap.size w w' := by
  have hu := Tryz.underlying23
  have hodd := fun w => dec_odd.calls 0 1 false 0 false w (by decide)
  have hnew := fun w => synth_New.calls 5 1 [⟨List.replicate 256 0, 0, 0⟩] 0 w new_one
  obtain ⟨z, hz⟩ : ∃ z, z = List.replicate 256 (0 : Int) := ⟨_, rfl⟩
  rw [← hz] at hnew
  clear hz
  obtain ⟨i0, hi, hz0, hz1, hz2⟩ := info_parts info_row
  have hmk := fun W => run_make (P := Tryz.prog) W 27 31 i0 (.slice none 0 0) Tryz.underlying27 hi hz0 .i64 .i64 1 1 (by omega) (by omega) (by rw [hz2]; omega) (by omega)
  have c0 := blk_new w (.cells #[.int .i64 0, .int .i64 1, .bool false, .int .i64 0] 23)
  go_enter Tryz.func25, Tryz.ntmps25
  go_wp2_with (go_at_call 43; go_must (refine (hodd _).mono ?_; rintro e w1 ⟨rfl, hb⟩; have c1 := blk_below c0 hb; have f1 := blk_cell c1 1; have HB1 := Aside0.mk (below_then ((Below.refl w.heap.size w).alloc (Nat.le_refl _) (.cells #[.int .i64 0, .int .i64 1, .bool false, .int .i64 0] 23)) (by simp) hb); clear hb))
  go_loopw [21] (fun i wr => i = .int .i64 0 ∧ w1 = wr) (fun _ _ => 0)
  case atStart => exact ⟨rfl, rfl⟩
  case round =>
    obtain ⟨rfl, rfl⟩ := hrel
    go_wp2_with (go_at_call 21; go_must (refine (hnew _).mono ?_; rintro e w2 ⟨v, rfl, ho, hb⟩; have c2 := blk_below c1 hb; have f0 := blk_cell c2 0; have f1 := blk_cell c2 1; have f2 := blk_cell c2 2; have f3 := blk_cell c2 3; have c3 := blk_alloc c2 (.cells (madeCells #[.slice none 0 0] 1) 31); have g0 := blk_cell c3 0; have g1 := blk_cell c3 1; have g2 := blk_cell c3 2; have g3 := blk_cell c3 3; obtain ⟨gl, cl, cells, tv, rfl, hgl, hl, h0, h1, h2, ht⟩ := lap_of (Kd.S_R ho); have HB2 := Aside0.mk (below_then HB1.out HB1.out.size hb); clear hb ho))
    go_region
    have VP := Aside0.mk (blk_drew (blk_new (w2.alloc (.cells (madeCells #[.slice none 0 0] 1) 31)) (.cells #[.int .i64 0, .int .i64 1, .bool false, .int .i64 0, .slice none 0 0, .slice (some ⟨gl, 0, none⟩) 1 cl, .slice (some ⟨w2.heap.size, 0, none⟩) 1 1] 99)))
    have VG : Aside0 (Boxed (((w2.alloc (.cells (madeCells #[.slice none 0 0] 1) 31)).alloc (.cells #[.int .i64 0, .int .i64 1, .bool false, .int .i64 0, .slice none 0 0, .slice (some ⟨gl, 0, none⟩) 1 cl, .slice (some ⟨w2.heap.size, 0, none⟩) 1 1] 99)).drew) w2.heap.size 31 (.slice none 0 0)) := ⟨(blk_drew (blk_alloc (blk_new w2 (.cells (madeCells #[.slice none 0 0] 1) 31)) _)).trans (by rw [made_one])⟩
    have VB := Aside0.mk (((HB2.out.alloc HB2.out.size (.cells (madeCells #[.slice none 0 0] 1) 31)).alloc (by have := HB2.out.size; simp; omega) (.cells #[.int .i64 0, .int .i64 1, .bool false, .int .i64 0, .slice none 0 0, .slice (some ⟨gl, 0, none⟩) 1 cl, .slice (some ⟨w2.heap.size, 0, none⟩) 1 1] 99)).drew)
    rw [World.size_alloc] at VP
    generalize ((w2.alloc (.cells (madeCells #[.slice none 0 0] 1) 31)).alloc (.cells #[.int .i64 0, .int .i64 1, .bool false, .int .i64 0, .slice none 0 0, .slice (some ⟨gl, 0, none⟩) 1 cl, .slice (some ⟨w2.heap.size, 0, none⟩) 1 1] 99)).drew = V at VP VG VB ⊢
    have p6 := blk_cell VP.out 6
    go_wp2
    go_loopw [10, 12] (fun e i wr => e = .int .i64 0 ∧ i = .int .i64 0 ∧ V = wr) (fun _ _ _ => 0)
    case atStart => exact ⟨rfl, rfl, rfl⟩
    case round =>
      obtain ⟨rfl, rfl, rfl⟩ := hrel
      go_wp2
      refine bodyPost_ret (results_list2 (rs := [.tmp 4, .tmp 5]) (vs := [.slice (some ⟨w2.heap.size, 0, none⟩) 1 1, .int .i64 0]) rfl (by simp) (.tmp (.tmp .nil))) rfl ⟨⟨_, rfl, VG.out⟩, VB.out⟩

set_option maxRecDepth 100000 in
set_option maxHeartbeats 4000000 in
/-- Two lost slots are silence. -/
theorem play_two (bs : Nat) (w : World) (hs : w.heap[bs]? = some (.cells #[.int .i64 0, .int .i64 0, .bool true, .slice none 0 0, .bool false, .int .i64 0, .slice none 0 0, .slice none 0 0, .int .i64 0, .int .i64 0, .bool true, .slice none 0 0, .bool false, .int .i64 0, .slice none 0 0, .slice none 0 0] 69 (0, 0))) :
    Calls Tryz.prog 25 #[.agg #[.int .i64 0, .int .i64 1, .bool false, .int .i64 0], .slice (some ⟨bs, 0, none⟩) 2 2] w fun e w' => (∃ gp pv, e = .returned (.tuple #[.slice (some ⟨gp, 0, none⟩) 1 1, .int .i64 0]) ∧ Boxed w' gp 31 pv ∧ Kd.R (Kd.int .i64) 3 w' 0 (fun _ => True) pv (List.replicate 512 0)) ∧ Below w.heap.size w w' := by
  have hu := Tryz.underlying23
  have hu2 := Tryz.underlying69
  have hodd := fun w => dec_odd.calls 0 1 false 0 false w (by decide)
  have hnew := fun w => synth_New.calls 5 1 [⟨List.replicate 256 0, 0, 0⟩] 0 w new_one
  have hrun := fun g gl gp As cs cl B0 W => run_calls g gl gp As 2 cs cl B0 300 (List.replicate 256 0) W (by omega) rfl (fun j hj => lines_silence _ _ (by omega) (by omega) (by omega)) seq_silence next_silence
  obtain ⟨z, hz⟩ : ∃ z, z = List.replicate 256 (0 : Int) := ⟨_, rfl⟩
  rw [← hz] at hnew hrun
  clear hz
  obtain ⟨i0, hi, hz0, hz1, hz2⟩ := info_parts info_row
  have hmk := fun W => run_make (P := Tryz.prog) W 27 31 i0 (.slice none 0 0) Tryz.underlying27 hi hz0 .i64 .i64 1 1 (by omega) (by omega) (by rw [hz2]; omega) (by omega)
  have c0 := blk_new w (.cells #[.int .i64 0, .int .i64 1, .bool false, .int .i64 0] 23)
  have s0 := blk_alloc hs (.cells #[.int .i64 0, .int .i64 1, .bool false, .int .i64 0] 23)
  go_enter Tryz.func25, Tryz.ntmps25
  go_wp2_with (go_at_call 43; go_must (refine (hodd _).mono ?_; rintro e w1 ⟨rfl, hb⟩; have C1 := Aside0.mk (blk_below c0 hb); have S1 := Aside0.mk (blk_below s0 hb); have HB1 := Aside0.mk (below_then ((Below.refl w.heap.size w).alloc (Nat.le_refl _) (.cells #[.int .i64 0, .int .i64 1, .bool false, .int .i64 0] 23)) (by simp) hb); clear hb))
  have HS := Aside0.mk hs
  clear c0 s0 hs
  go_loopw [21] (fun i wr => ∃ j : Nat, i = .int .i64 (j : Int) ∧ j ≤ 2 ∧ Aside0 (Below w1.heap.size w1 wr)) (fun i _ => 2 - (intOf i).toNat)
  case atStart => exact ⟨0, rfl, by omega, ⟨Below.refl _ _⟩⟩
  case round =>
    rename World => wr
    obtain ⟨j, rfl, hj, HR⟩ := hrel
    have C2 := Aside0.mk (blk_below C1.out HR.out)
    have S2 := Aside0.mk (blk_below S1.out HR.out)
    have HB := Aside0.mk (below_then HB1.out HB1.out.size HR.out)
    by_cases hlt : j < 2
    · have hj2 : j = 0 ∨ j = 1 := by omega
      clear HB1
      rcases hj2 with rfl | rfl
      · have q0 := blk_cell S2.out 0
        have q1 := blk_cell S2.out 1
        have q2 := blk_cell S2.out 2
        have q3 := blk_cell S2.out 3
        have q4 := blk_cell S2.out 4
        have q5 := blk_cell S2.out 5
        have q6 := blk_cell S2.out 6
        have q7 := blk_cell S2.out 7
        go_wp2
        exact ⟨⟨1, rfl, by omega, ⟨HR.out.alloc HR.out.size _⟩⟩, by simp [intOf]⟩
      · have q0 := blk_cell S2.out 8
        have q1 := blk_cell S2.out 9
        have q2 := blk_cell S2.out 10
        have q3 := blk_cell S2.out 11
        have q4 := blk_cell S2.out 12
        have q5 := blk_cell S2.out 13
        have q6 := blk_cell S2.out 14
        have q7 := blk_cell S2.out 15
        go_wp2
        exact ⟨⟨2, rfl, by omega, ⟨HR.out.alloc HR.out.size _⟩⟩, by simp [intOf]⟩
    · obtain rfl : j = 2 := by omega
      have f1 := blk_cell C2.out 1
      go_wp2_with (go_at_call 21; go_must (refine (hnew _).mono ?_; rintro e w2 ⟨v, rfl, ho, hb⟩; have c2 := blk_below C2.out hb; have f0 := blk_cell c2 0; have f1 := blk_cell c2 1; have f2 := blk_cell c2 2; have f3 := blk_cell c2 3; have c3 := blk_alloc c2 (.cells (madeCells #[.slice none 0 0] 1) 31); have g0 := blk_cell c3 0; have g1 := blk_cell c3 1; have g2 := blk_cell c3 2; have g3 := blk_cell c3 3; obtain ⟨gl, cl, cells, tv, rfl, hgl, hl, h0, h1, h2, ht⟩ := lap_of (Kd.S_R ho); have HW2 := Aside0.mk hb; have HB2 := Aside0.mk (below_then HB.out HB.out.size hb); clear hb ho))
      go_region
      have VP := Aside0.mk (blk_drew (blk_new (w2.alloc (.cells (madeCells #[.slice none 0 0] 1) 31)) (.cells #[.int .i64 0, .int .i64 1, .bool false, .int .i64 0, .slice (some ⟨bs, 0, none⟩) 2 2, .slice (some ⟨gl, 0, none⟩) 1 cl, .slice (some ⟨w2.heap.size, 0, none⟩) 1 1] 99)))
      have VG : Aside0 (Boxed (((w2.alloc (.cells (madeCells #[.slice none 0 0] 1) 31)).alloc (.cells #[.int .i64 0, .int .i64 1, .bool false, .int .i64 0, .slice (some ⟨bs, 0, none⟩) 2 2, .slice (some ⟨gl, 0, none⟩) 1 cl, .slice (some ⟨w2.heap.size, 0, none⟩) 1 1] 99)).drew) w2.heap.size 31 (.slice none 0 0)) := ⟨(blk_drew (blk_alloc (blk_new w2 (.cells (madeCells #[.slice none 0 0] 1) 31)) _)).trans (by rw [made_one])⟩
      have VL := Aside0.mk (blk_drew (blk_alloc (blk_alloc hl (.cells (madeCells #[.slice none 0 0] 1) 31)) (.cells #[.int .i64 0, .int .i64 1, .bool false, .int .i64 0, .slice (some ⟨bs, 0, none⟩) 2 2, .slice (some ⟨gl, 0, none⟩) 1 cl, .slice (some ⟨w2.heap.size, 0, none⟩) 1 1] 99)))
      have VT := Aside0.mk (Kd.R_drew (Kd.R_alloc (Kd.R_alloc ht (.cells (madeCells #[.slice none 0 0] 1) 31)) (.cells #[.int .i64 0, .int .i64 1, .bool false, .int .i64 0, .slice (some ⟨bs, 0, none⟩) 2 2, .slice (some ⟨gl, 0, none⟩) 1 cl, .slice (some ⟨w2.heap.size, 0, none⟩) 1 1] 99)))
      have VS := Aside0.mk (blk_drew (blk_alloc (blk_alloc (blk_below S2.out HW2.out) (.cells (madeCells #[.slice none 0 0] 1) 31)) (.cells #[.int .i64 0, .int .i64 1, .bool false, .int .i64 0, .slice (some ⟨bs, 0, none⟩) 2 2, .slice (some ⟨gl, 0, none⟩) 1 cl, .slice (some ⟨w2.heap.size, 0, none⟩) 1 1] 99)))
      have VB := Aside0.mk (((HB2.out.alloc HB2.out.size (.cells (madeCells #[.slice none 0 0] 1) 31)).alloc (by have := HB2.out.size; simp; omega) (.cells #[.int .i64 0, .int .i64 1, .bool false, .int .i64 0, .slice (some ⟨bs, 0, none⟩) 2 2, .slice (some ⟨gl, 0, none⟩) 1 cl, .slice (some ⟨w2.heap.size, 0, none⟩) 1 1] 99)).drew)
      rw [World.size_alloc] at VP
      generalize ((w2.alloc (.cells (madeCells #[.slice none 0 0] 1) 31)).alloc (.cells #[.int .i64 0, .int .i64 1, .bool false, .int .i64 0, .slice (some ⟨bs, 0, none⟩) 2 2, .slice (some ⟨gl, 0, none⟩) 1 cl, .slice (some ⟨w2.heap.size, 0, none⟩) 1 1] 99)).drew = V at VP VG VB VL VT VS ⊢
      go_wp2
      clear f0 f1 f2 f3 c2 c3 g0 g1 g2 g3
      have hw2 : w.heap.size ≤ w2.heap.size := HB2.out.size
      go_loopw [10, 12] (fun e i wx => e = .int .i64 0 ∧ ∃ j : Nat, i = .int .i64 (j : Int) ∧ (j = 0 ∧ V = wx ∨ j = 2 ∧ Aside0 (∃ b7 b8, RunSt (w2.heap.size + 1) gl w2.heap.size b7 b8 (some ⟨bs, 0, none⟩) 2 2 cl w.heap.size z V 2 wx))) (fun _ i _ => 2 - (intOf i).toNat)
      case atStart => exact ⟨rfl, 0, rfl, .inl ⟨rfl, rfl⟩⟩
      case round =>
        rename World => wx
        obtain ⟨rfl, j, rfl, hjj⟩ := hrel
        rcases hjj with ⟨rfl, rfl⟩ | ⟨rfl, HST⟩
        · have q2 := blk_cell VS.out 2
          have q10 := blk_cell VS.out 10
          go_wp2
          go_loopw [13] (fun i wy => ∃ k : Nat, i = .int .i64 (k : Int) ∧ k ≤ 2 ∧ V = wy) (fun i _ => 2 - (intOf i).toNat)
          case atStart => exact ⟨0, rfl, by omega, rfl⟩
          case round =>
            obtain ⟨k, rfl, hk, rfl⟩ := hrel
            have hk3 : k = 0 ∨ k = 1 ∨ k = 2 := by omega
            rcases hk3 with rfl | rfl | rfl
            · go_wp2
              exact ⟨⟨1, rfl, by omega, trivial⟩, by simp [intOf]⟩
            · go_wp2
              exact ⟨⟨2, rfl, by omega, trivial⟩, by simp [intOf]⟩
            · go_wp2_with (go_at_call 44; go_must (refine (hrun (w2.heap.size + 1) gl w2.heap.size (some ⟨bs, 0, none⟩) 2 cl w.heap.size V (by have := VB.out.size; omega) (by omega) (by have h1 := HB.out.size; have h2 : wr.heap.size ≤ gl := hgl; omega) (by omega) VP.out cells tv VL.out h0 h1 h2 VT.out VG.out).mono ?_; rintro e w5 ⟨rfl, hst⟩))
              exact ⟨⟨rfl, 2, rfl, .inr ⟨rfl, ⟨hst⟩⟩⟩, by simp [intOf]⟩
        · obtain ⟨b7, b8, hst⟩ := HST.out
          have p6 := blk_cell hst.1 6
          go_wp2
          obtain ⟨hp, ⟨cells', tv', pv, bv, hl', c0, c1, c2, hRt, hbp, hRp, hne, hb7', hbv⟩, hb8', hbl⟩ := hst
          refine bodyPost_ret (results_list2 (rs := [.tmp 4, .tmp 5]) (vs := [.slice (some ⟨w2.heap.size, 0, none⟩) 1 1, .int .i64 0]) rfl (by simp) (.tmp (.tmp .nil))) rfl ⟨⟨_, pv, rfl, hbp, Kd.R_lower hRp (Nat.zero_le _)⟩, VB.out.trans hbl⟩
end Go.Proofs.YtplmmoaljlnbdaaGreat.Hd
end

section
-- Written by a program of this session (wip/hprint.py), out of the translation's own print.
namespace Go.Proofs.YtplmmoaljlnbdaaGreat.Hd
open Go.RowKit Go.Proofs.YtplmmoaljlnbdaaGreatW.PrintWords Go.Proofs.YtplmmoaljlnbdaaGreatW.PrintLast Go.Proofs.YtplmmoaljlnbdaaGreatW.PrintMore Go.Proofs.YtplmmoaljlnbdaaGreat.Hd
attribute [local go_sem] max2_int min2_int max_two min_two max_three min_three max_four min_four   -- for this text's walks alone
set_option linter.unusedVariables false
set_option linter.unusedSimpArgs false

/-! ### raw_config: function 55 -/
def raw_config.f (a0_0 : Int) (a0_1 : Int) (a0_2 : Bool) (a0_3 : Int) : Option (Bool) := if a0_0 ≥ 0 then (if a0_0 ≤ 11 then (if a0_1 = 1 then (some true) else (some (a0_1 == 2))) else (some false)) else (some false)
set_option maxHeartbeats 8000000 in
set_option maxRecDepth 100000 in
theorem raw_config.calls (a0_0 : Int) (a0_1 : Int) (a0_2 : Bool) (a0_3 : Int) (r : Bool) (w : World) (h : raw_config.f a0_0 a0_1 a0_2 a0_3 = some r) :
    Calls Tryz.prog 55 #[.agg #[.int .i64 a0_0, .int .i64 a0_1, .bool a0_2, .int .i64 a0_3]] w fun e w' => e = .returned (.bool r) ∧ Below w.heap.size w w' := by
  have hu23 := Tryz.underlying23
  have HB := Aside0.mk (Below.refl w.heap.size w)
  have H : (if a0_0 ≥ 0 then (if a0_0 ≤ 11 then (if a0_1 = 1 then (some true) else (some (a0_1 == 2))) else (some false)) else (some false)) = some r := h
  clear h
  by_cases c2 : a0_0 ≥ 0
  · rw [if_pos c2] at H
    have c2b0 : decide (0 ≤ a0_0) = true := decide_eq_true c2
    clear c2
    by_cases c3 : a0_0 ≤ 11
    · rw [if_pos c3] at H
      have c3b0 : decide (a0_0 ≤ 11) = true := decide_eq_true c3
      clear c3
      by_cases c4 : a0_1 = 1
      · rw [if_pos c4] at H
        have c4b0 : (a0_1 == 1) = true := beq_iff_eq.mpr c4
        have c4b1 : (a0_1 != 1) = false := bne_eq_false_iff_eq.mpr c4
        clear c4
        obtain rfl := Option.some.inj H
        go_enter Tryz.func55, Tryz.ntmps55
        go_wp2_with (first | ((with_reducible refine gate_dst (N := 1) rfl ?_); refine box_event ?hg (N := 1) ?hd (cs := #[.int .i64 a0_0, .int .i64 a0_1, .bool a0_2, .int .i64 a0_3]) (t := 23) ?hr ?_; (case hd => rfl); (case hg => rfl); (case hr => first | (go_simp; done) | (go_simp; rfl)); intro gb113 hg w5 hbox hb; have n0_ := Aside0.mk (below_step (by repeat (first | (with_reducible first | exact HB.out | apply below_alloc | apply pw_below_drewN | apply below_drew1) | exact HB.out)) hb); have n1_ := Aside0.mk (hbox); have n2_ := Aside0.mk ((by rw [hg]; exact (below_size (by repeat (first | (with_reducible first | exact HB.out | apply below_alloc | apply pw_below_drewN | apply below_drew1) | exact HB.out))) : w.heap.size ≤ gb113)); have n3_ := Aside0.mk ((by rw [hg]; exact (below_size (by repeat (first | (with_reducible first | exact HB.out | apply below_alloc | apply pw_below_drewN | apply below_drew1) | exact HB.out))) : w.heap.size ≤ gb113)); clear HB; have HB := n0_; have BK113 := n1_; have GW113 := n2_; have GE113 := n3_; clear n0_ n1_ n2_ n3_; clear hb hbox hg; have hcz6_0 : w5.cell? ⟨gb113, 0, none⟩ = some (.int .i64 a0_0) := (blk_cell BK113.out 0).trans rfl; have hcz6_1 : w5.cell? ⟨gb113, 1, none⟩ = some (.int .i64 a0_1) := (blk_cell BK113.out 1).trans rfl; have hcz6_2 : w5.cell? ⟨gb113, 2, none⟩ = some (.bool a0_2) := (blk_cell BK113.out 2).trans rfl; have hcz6_3 : w5.cell? ⟨gb113, 3, none⟩ = some (.int .i64 a0_3) := (blk_cell BK113.out 3).trans rfl; have hfz6_0 := blk_frozen BK113.out 0; have hfz6_1 := blk_frozen BK113.out 1; have hfz6_2 := blk_frozen BK113.out 2; have hfz6_3 := blk_frozen BK113.out 3))
        go_ret
        exact ⟨by first | rfl | (simp [errW_none, errW_some] <;> rfl) | (simp [*, errW_none, errW_some] <;> rfl), by repeat (first | (with_reducible first | exact HB.out | apply below_alloc | apply pw_below_drewN | apply below_drew1 | refine below_set ?_ GE113.out) | exact HB.out)⟩
      · rw [if_neg c4] at H
        have c4b0 : (a0_1 == 1) = false := beq_eq_false_iff_ne.mpr c4
        have c4b1 : (a0_1 != 1) = true := bne_iff_ne.mpr c4
        obtain rfl := Option.some.inj H
        go_enter Tryz.func55, Tryz.ntmps55
        go_wp2_with (first | ((with_reducible refine gate_dst (N := 1) rfl ?_); refine box_event ?hg (N := 1) ?hd (cs := #[.int .i64 a0_0, .int .i64 a0_1, .bool a0_2, .int .i64 a0_3]) (t := 23) ?hr ?_; (case hd => rfl); (case hg => rfl); (case hr => first | (go_simp; done) | (go_simp; rfl)); intro gb113 hg w7 hbox hb; have n0_ := Aside0.mk (below_step (by repeat (first | (with_reducible first | exact HB.out | apply below_alloc | apply pw_below_drewN | apply below_drew1) | exact HB.out)) hb); have n1_ := Aside0.mk (hbox); have n2_ := Aside0.mk ((by rw [hg]; exact (below_size (by repeat (first | (with_reducible first | exact HB.out | apply below_alloc | apply pw_below_drewN | apply below_drew1) | exact HB.out))) : w.heap.size ≤ gb113)); have n3_ := Aside0.mk ((by rw [hg]; exact (below_size (by repeat (first | (with_reducible first | exact HB.out | apply below_alloc | apply pw_below_drewN | apply below_drew1) | exact HB.out))) : w.heap.size ≤ gb113)); clear HB; have HB := n0_; have BK113 := n1_; have GW113 := n2_; have GE113 := n3_; clear n0_ n1_ n2_ n3_; clear hb hbox hg; have hcz8_0 : w7.cell? ⟨gb113, 0, none⟩ = some (.int .i64 a0_0) := (blk_cell BK113.out 0).trans rfl; have hcz8_1 : w7.cell? ⟨gb113, 1, none⟩ = some (.int .i64 a0_1) := (blk_cell BK113.out 1).trans rfl; have hcz8_2 : w7.cell? ⟨gb113, 2, none⟩ = some (.bool a0_2) := (blk_cell BK113.out 2).trans rfl; have hcz8_3 : w7.cell? ⟨gb113, 3, none⟩ = some (.int .i64 a0_3) := (blk_cell BK113.out 3).trans rfl; have hfz8_0 := blk_frozen BK113.out 0; have hfz8_1 := blk_frozen BK113.out 1; have hfz8_2 := blk_frozen BK113.out 2; have hfz8_3 := blk_frozen BK113.out 3))
        go_ret
        exact ⟨by first | rfl | (simp [errW_none, errW_some] <;> rfl) | (simp [*, errW_none, errW_some] <;> rfl), by repeat (first | (with_reducible first | exact HB.out | apply below_alloc | apply pw_below_drewN | apply below_drew1 | refine below_set ?_ GE113.out) | exact HB.out)⟩
    · rw [if_neg c3] at H
      have c3b0 : decide (a0_0 ≤ 11) = false := decide_eq_false c3
      clear c3
      obtain rfl := Option.some.inj H
      go_enter Tryz.func55, Tryz.ntmps55
      go_wp2_with (first | ((with_reducible refine gate_dst (N := 1) rfl ?_); refine box_event ?hg (N := 1) ?hd (cs := #[.int .i64 a0_0, .int .i64 a0_1, .bool a0_2, .int .i64 a0_3]) (t := 23) ?hr ?_; (case hd => rfl); (case hg => rfl); (case hr => first | (go_simp; done) | (go_simp; rfl)); intro gb113 hg w9 hbox hb; have n0_ := Aside0.mk (below_step (by repeat (first | (with_reducible first | exact HB.out | apply below_alloc | apply pw_below_drewN | apply below_drew1) | exact HB.out)) hb); have n1_ := Aside0.mk (hbox); have n2_ := Aside0.mk ((by rw [hg]; exact (below_size (by repeat (first | (with_reducible first | exact HB.out | apply below_alloc | apply pw_below_drewN | apply below_drew1) | exact HB.out))) : w.heap.size ≤ gb113)); have n3_ := Aside0.mk ((by rw [hg]; exact (below_size (by repeat (first | (with_reducible first | exact HB.out | apply below_alloc | apply pw_below_drewN | apply below_drew1) | exact HB.out))) : w.heap.size ≤ gb113)); clear HB; have HB := n0_; have BK113 := n1_; have GW113 := n2_; have GE113 := n3_; clear n0_ n1_ n2_ n3_; clear hb hbox hg; have hcz10_0 : w9.cell? ⟨gb113, 0, none⟩ = some (.int .i64 a0_0) := (blk_cell BK113.out 0).trans rfl; have hcz10_1 : w9.cell? ⟨gb113, 1, none⟩ = some (.int .i64 a0_1) := (blk_cell BK113.out 1).trans rfl; have hcz10_2 : w9.cell? ⟨gb113, 2, none⟩ = some (.bool a0_2) := (blk_cell BK113.out 2).trans rfl; have hcz10_3 : w9.cell? ⟨gb113, 3, none⟩ = some (.int .i64 a0_3) := (blk_cell BK113.out 3).trans rfl; have hfz10_0 := blk_frozen BK113.out 0; have hfz10_1 := blk_frozen BK113.out 1; have hfz10_2 := blk_frozen BK113.out 2; have hfz10_3 := blk_frozen BK113.out 3))
      go_ret
      exact ⟨by first | rfl | (simp [errW_none, errW_some] <;> rfl) | (simp [*, errW_none, errW_some] <;> rfl), by repeat (first | (with_reducible first | exact HB.out | apply below_alloc | apply pw_below_drewN | apply below_drew1 | refine below_set ?_ GE113.out) | exact HB.out)⟩
  · rw [if_neg c2] at H
    have c2b0 : decide (0 ≤ a0_0) = false := decide_eq_false c2
    clear c2
    obtain rfl := Option.some.inj H
    go_enter Tryz.func55, Tryz.ntmps55
    go_wp2_with (first | ((with_reducible refine gate_dst (N := 1) rfl ?_); refine box_event ?hg (N := 1) ?hd (cs := #[.int .i64 a0_0, .int .i64 a0_1, .bool a0_2, .int .i64 a0_3]) (t := 23) ?hr ?_; (case hd => rfl); (case hg => rfl); (case hr => first | (go_simp; done) | (go_simp; rfl)); intro gb113 hg w11 hbox hb; have n0_ := Aside0.mk (below_step (by repeat (first | (with_reducible first | exact HB.out | apply below_alloc | apply pw_below_drewN | apply below_drew1) | exact HB.out)) hb); have n1_ := Aside0.mk (hbox); have n2_ := Aside0.mk ((by rw [hg]; exact (below_size (by repeat (first | (with_reducible first | exact HB.out | apply below_alloc | apply pw_below_drewN | apply below_drew1) | exact HB.out))) : w.heap.size ≤ gb113)); have n3_ := Aside0.mk ((by rw [hg]; exact (below_size (by repeat (first | (with_reducible first | exact HB.out | apply below_alloc | apply pw_below_drewN | apply below_drew1) | exact HB.out))) : w.heap.size ≤ gb113)); clear HB; have HB := n0_; have BK113 := n1_; have GW113 := n2_; have GE113 := n3_; clear n0_ n1_ n2_ n3_; clear hb hbox hg; have hcz12_0 : w11.cell? ⟨gb113, 0, none⟩ = some (.int .i64 a0_0) := (blk_cell BK113.out 0).trans rfl; have hcz12_1 : w11.cell? ⟨gb113, 1, none⟩ = some (.int .i64 a0_1) := (blk_cell BK113.out 1).trans rfl; have hcz12_2 : w11.cell? ⟨gb113, 2, none⟩ = some (.bool a0_2) := (blk_cell BK113.out 2).trans rfl; have hcz12_3 : w11.cell? ⟨gb113, 3, none⟩ = some (.int .i64 a0_3) := (blk_cell BK113.out 3).trans rfl; have hfz12_0 := blk_frozen BK113.out 0; have hfz12_1 := blk_frozen BK113.out 1; have hfz12_2 := blk_frozen BK113.out 2; have hfz12_3 := blk_frozen BK113.out 3))
    go_ret
    exact ⟨by first | rfl | (simp [errW_none, errW_some] <;> rfl) | (simp [*, errW_none, errW_some] <;> rfl), by repeat (first | (with_reducible first | exact HB.out | apply below_alloc | apply pw_below_drewN | apply below_drew1 | refine below_set ?_ GE113.out) | exact HB.out)⟩

end Go.Proofs.YtplmmoaljlnbdaaGreat.Hd
end

section
/- sync.Scan of no bytes: no slots. -/
namespace Go.Proofs.YtplmmoaljlnbdaaGreat.Hd
open Go.RowKit Go.Shelf Go.Proofs.YtplmmoaljlnbdaaGreatW.PrintWords Go.Proofs.YtplmmoaljlnbdaaGreatW.PrintMore
set_option linter.unusedVariables false
set_option linter.unusedSimpArgs false

set_option maxRecDepth 100000 in
set_option maxHeartbeats 1000000 in
theorem right_empty (r : Int) (b : Bool) (s : Int) (w : World) : Calls Tryz.prog 56 #[.agg #[.int .i64 r, .int .i64 1, .bool b, .int .i64 s], .agg #[.slice none 0 0, .bool false, .int .i64 0, .slice none 0 0, .slice none 0 0]] w fun e w' => e = .returned (.bool false) ∧ Below w.heap.size w w' := by
  have hu := Tryz.underlying23
  have hu2 := Tryz.underlying38
  go_enter Tryz.func56, Tryz.ntmps56
  go_wp2
  go_ret
  exact ⟨rfl, ((Below.refl _ _).alloc (Nat.le_refl _) _).alloc (by simp) _⟩

set_option maxRecDepth 100000 in
set_option maxHeartbeats 1000000 in
theorem bits_empty (w : World) : Calls Tryz.prog 33 #[.agg #[.int .i64 0, .int .i64 1, .bool false, .int .i64 0], .agg #[.slice none 0 0, .bool false, .int .i64 0, .slice none 0 0, .slice none 0 0]] w fun e w' => e = .returned (.tuple #[.int .i64 0, .int .i64 8]) ∧ Below w.heap.size w w' := by
  have hu := Tryz.underlying23
  have hu2 := Tryz.underlying38
  have hc := fun w => raw_config.calls 0 1 false 0 true w (by decide)
  go_enter Tryz.func33, Tryz.ntmps33
  have c0 := blk_alloc (blk_new w (.cells #[.int .i64 0, .int .i64 1, .bool false, .int .i64 0] 23)) (.cells #[.slice none 0 0, .bool false, .int .i64 0, .slice none 0 0, .slice none 0 0] 38)
  have d0 := blk_new (w.alloc (.cells #[.int .i64 0, .int .i64 1, .bool false, .int .i64 0] 23)) (.cells #[.slice none 0 0, .bool false, .int .i64 0, .slice none 0 0, .slice none 0 0] 38)
  rw [World.size_alloc] at d0
  go_wp2_with (first
    | (go_at_call 55; go_must (refine (hc _).mono ?_; rintro e w1 ⟨rfl, hb1⟩); have c1 := blk_below c0 hb1; have d1 := blk_below d0 hb1; have f0 := blk_cell c1 0; have f1 := blk_cell c1 1; have f2 := blk_cell c1 2; have f3 := blk_cell c1 3; have e0 := blk_cell d1 0; have e1 := blk_cell d1 1; have e2 := blk_cell d1 2; have e3 := blk_cell d1 3; have e4 := blk_cell d1 4; have HB1 := Aside0.mk hb1; clear hb1)
    | (go_at_call 56; go_must (refine (right_empty 0 false 0 _).mono ?_; rintro e w2 ⟨rfl, hb2⟩); have HB2 := Aside0.mk hb2; clear hb2))
  refine bodyPost_ret (results_list2 (rs := [.tmp 4, .tmp 5]) (vs := [.int .i64 0, .int .i64 8]) rfl (by simp) (.tmp (.tmp .nil))) rfl ⟨rfl, ?_⟩
  have h := ((Below.refl w.heap.size w).alloc (Nat.le_refl _) (.cells #[.int .i64 0, .int .i64 1, .bool false, .int .i64 0] 23)).alloc (by simp) (.cells #[.slice none 0 0, .bool false, .int .i64 0, .slice none 0 0, .slice none 0 0] 38)
  have h1 := below_then h h.size HB1.out
  exact below_then h1 h1.size HB2.out

theorem infoHead : (Tryz.prog.info? 152).map (·.size) = some 5 := by kernel_rfl
set_option maxRecDepth 100000 in
set_option maxHeartbeats 1000000 in
theorem head_empty (w : World) : Calls Tryz.prog 137 #[.slice none 0 0] w fun e w' => (e = .returned (.tuple #[.agg #[.int .i64 0, .int .i64 0, .bool false, .int .i64 0, .int .i64 0], .int .i64 5])) ∧ Below w.heap.size w w' := by
  have hu := Tryz.underlying152
  go_enter Tryz.func137, Tryz.ntmps137
  go_wp2
  refine bodyPost_ret (results_list2 (rs := [.cell 2 152, .tmp 3]) rfl (by simp) (.cell w.heap.size _ _ _ _ rfl (blk_new w _) hu rfl infoHead (.tmp .nil))) rfl ⟨rfl, (Below.refl _ _).alloc (Nat.le_refl _) _⟩

set_option maxRecDepth 100000 in
set_option maxHeartbeats 1000000 in
theorem stands_empty (w : World) : Calls Tryz.prog 82 #[.agg #[.int .i64 0, .int .i64 1, .bool false, .int .i64 0], .slice none 0 0] w fun e w' => e = .returned (.int .i64 0) ∧ Below w.heap.size w w' := by
  have hu := Tryz.underlying23
  have hu2 := Tryz.underlying152
  go_enter Tryz.func82, Tryz.ntmps82
  go_wp2_with (go_at_call 137; go_must (refine (head_empty _).mono ?_; rintro e w2 ⟨rfl, hb2⟩); have HB2 := Aside0.mk hb2; clear hb2)
  go_ret
  have h := (Below.refl w.heap.size w).alloc (Nat.le_refl _) (.cells #[.int .i64 0, .int .i64 1, .bool false, .int .i64 0] 23)
  have h1 := below_then h h.size HB2.out
  exact ⟨rfl, h1.alloc h1.size _⟩

set_option maxRecDepth 100000 in
set_option maxHeartbeats 1000000 in
theorem scan_nil (w : World) : Calls Tryz.prog 46 #[.agg #[.int .i64 0, .int .i64 1, .bool false, .int .i64 0], .slice none 0 0] w fun e w' => e = .returned (.tuple #[.slice none 0 0, .int .i64 0]) ∧ Below w.heap.size w w' := by
  have hu := Tryz.underlying23
  have hu2 := Tryz.underlying38
  go_enter Tryz.func46, Tryz.ntmps46
  have c0 := blk_new w (.cells #[.int .i64 0, .int .i64 1, .bool false, .int .i64 0] 23)
  go_wp2
  go_step3
  go_wp2_with (go_at_call 33; go_must (refine (bits_empty _).mono ?_; rintro e w1 ⟨rfl, hb1⟩); have c1 := blk_below c0 hb1; have f0 := blk_cell c1 0; have f1 := blk_cell c1 1; have f2 := blk_cell c1 2; have f3 := blk_cell c1 3; have HB1 := Aside0.mk hb1; clear hb1)
  go_step3
  go_wp2
  go_loopw [8, 9] (fun o i wr => o = .slice none 0 0 ∧ i = .int .i64 0 ∧ w1 = wr) (fun _ _ _ => 0)
  case atStart => exact ⟨rfl, rfl, rfl⟩
  case round =>
    obtain ⟨rfl, rfl, rfl⟩ := hrel
    go_wp2
    go_region_held3 (fun w' => w'.cell? ⟨w.heap.size, 0, none⟩ = some (.int .i64 0) ∧ w'.cell? ⟨w.heap.size, 1, none⟩ = some (.int .i64 1) ∧ w'.cell? ⟨w.heap.size, 2, none⟩ = some (.bool false) ∧ w'.cell? ⟨w.heap.size, 3, none⟩ = some (.int .i64 0)) (go_keep) ((go_at_call 82; refine (stands_empty _).mono ?_; rintro e w3 ⟨rfl, hb⟩; have hb : Below w1.heap.size w1 w3 := (below_drew (Below.refl _ _)).trans hb; have HB3 := Aside0.mk (below_then HB1.out HB1.out.size hb);  have c3 := blk_below c1 hb; have g0 := blk_cell c3 0; have g1 := blk_cell c3 1; have g2 := blk_cell c3 2; have g3 := blk_cell c3 3; clear hb))
    go_wp2
    go_loopw [14] (fun i wr => i = .int .i64 1 ∧ w3 = wr) (fun _ _ => 0)
    case atStart => exact ⟨rfl, rfl⟩
    case round =>
      obtain ⟨rfl, rfl⟩ := hrel
      go_wp2
      rw [Exit.noGoto_ret]
      refine bodyPost_ret (results_list2 (rs := [.tmp 4, .tmp 5]) (vs := [.slice none 0 0, .int .i64 0]) rfl (by simp) (.tmp (.tmp .nil))) rfl ⟨rfl, ?_⟩
      have h := (Below.refl w.heap.size w).alloc (Nat.le_refl _) (.cells #[.int .i64 0, .int .i64 1, .bool false, .int .i64 0] 23)
      exact below_then h h.size HB3.out
end Go.Proofs.YtplmmoaljlnbdaaGreat.Hd
end

section
/- DecNames' walk: dec.Decode of no bytes, alive, the law. -/
namespace Go.Proofs.YtplmmoaljlnbdaaGreat.Hd
open Go.RowKit Go.Shelf Go.Proofs.YtplmmoaljlnbdaaGreatW.PrintWords Go.Proofs.YtplmmoaljlnbdaaGreatW.PrintMore Go.Proofs.YtplmmoaljlnbdaaGreatW.PrintLast
set_option linter.unusedVariables false
set_option linter.unusedSimpArgs false

set_option maxRecDepth 100000 in
set_option maxHeartbeats 2000000 in
theorem decode_nil (w : World) : Calls Tryz.prog 27 #[.agg #[.int .i64 0, .int .i64 1, .bool false, .int .i64 0], .slice none 0 0] w fun e w' => (∃ gp, e = .returned (.tuple #[.slice (some ⟨gp, 0, none⟩) 1 1, .int .i64 0]) ∧ Boxed w' gp 31 (.slice none 0 0)) ∧ Below w.heap.size w w' := by
  have hu := Tryz.underlying23
  have hodd := fun w => dec_odd.calls 0 1 false 0 false w (by decide)
  have c0 := blk_new w (.cells #[.int .i64 0, .int .i64 1, .bool false, .int .i64 0] 23)
  go_enter Tryz.func27, Tryz.ntmps27
  go_wp2_with (first
    | (go_at_call 43; go_must (refine (hodd _).mono ?_; rintro e w1 ⟨rfl, hb⟩; have c1 := blk_below c0 hb; have f0 := blk_cell c1 0; have f1 := blk_cell c1 1; have f2 := blk_cell c1 2; have f3 := blk_cell c1 3; have HB1 := Aside0.mk (below_then ((Below.refl w.heap.size w).alloc (Nat.le_refl _) (.cells #[.int .i64 0, .int .i64 1, .bool false, .int .i64 0] 23)) (by simp) hb); clear hb))
    | (go_at_call 46; go_must (refine (scan_nil _).mono ?_; rintro e w2 ⟨rfl, hb⟩; have c2 := blk_below c1 hb; have g0 := blk_cell c2 0; have g1 := blk_cell c2 1; have g2 := blk_cell c2 2; have g3 := blk_cell c2 3; have HB2 := Aside0.mk (below_then HB1.out HB1.out.size hb); clear hb))
    | (go_at_call 25; go_must (refine (play_nil _).mono ?_; rintro e w3 ⟨⟨gp, rfl, hbx⟩, hb⟩; have HB3 := Aside0.mk (below_then HB2.out HB2.out.size hb); have HBX := Aside0.mk hbx; clear hb hbx)))
  refine bodyPost_ret (results_list2 (rs := [.tmp 4, .tmp 5]) (vs := [.slice (some ⟨gp, 0, none⟩) 1 1, .int .i64 0]) rfl (by simp) (.tmp (.tmp .nil))) rfl ⟨⟨gp, rfl, HBX.out⟩, HB3.out⟩

set_option maxRecDepth 100000 in
set_option maxHeartbeats 2000000 in
theorem decode_three (w : World) : Calls Tryz.prog 27 #[.agg #[.int .i64 0, .int .i64 3, .bool false, .int .i64 0], .slice none 0 0] w fun e w' => e = .returned (.tuple #[.slice none 0 0, .int .i64 2]) ∧ Below w.heap.size w w' := by
  have hu := Tryz.underlying23
  have hodd := fun w => dec_odd.calls 0 3 false 0 true w (by decide)
  go_enter Tryz.func27, Tryz.ntmps27
  go_wp2_with (go_at_call 43; go_must (refine (hodd _).mono ?_; rintro e w1 ⟨rfl, hb⟩; have HB1 := Aside0.mk (below_then ((Below.refl w.heap.size w).alloc (Nat.le_refl _) (.cells #[.int .i64 0, .int .i64 3, .bool false, .int .i64 0] 23)) (by simp) hb); clear hb))
  refine bodyPost_ret (results_list2 (rs := [.tmp 4, .tmp 5]) (vs := [.slice none 0 0, .int .i64 2]) rfl (by simp) (.tmp (.tmp .nil))) rfl ⟨rfl, HB1.out⟩

set_option maxRecDepth 100000 in
set_option maxHeartbeats 2000000 in
theorem decAlive_calls (w : World) : Calls Tryz.prog 23 #[] w fun e w' => e = .returned (.bool true) ∧ Below w.heap.size w w' := by
  have hu := Tryz.underlying69
  go_enter Tryz.func23, Tryz.ntmps23
  go_wp2_with (go_at_call 25; go_must (refine (play_two w.heap.size _ (blk_new w (.cells #[.int .i64 0, .int .i64 0, .bool true, .slice none 0 0, .bool false, .int .i64 0, .slice none 0 0, .slice none 0 0, .int .i64 0, .int .i64 0, .bool true, .slice none 0 0, .bool false, .int .i64 0, .slice none 0 0, .slice none 0 0] 69))).mono ?_; rintro e w2 ⟨⟨gp, pv, rfl, hbx, hR⟩, hb⟩; obtain ⟨Ap, cp, rfl⟩ := Kd.R_slice hR; rw [List.length_replicate] at hbx hR; have p0 := hbx.cell; have HC := Aside0.mk (Kd.R_reads' hR).2.2; have HB2 := Aside0.mk (below_then ((Below.refl w.heap.size w).alloc (Nat.le_refl _) (.cells #[.int .i64 0, .int .i64 0, .bool true, .slice none 0 0, .bool false, .int .i64 0, .slice none 0 0, .slice none 0 0, .int .i64 0, .int .i64 0, .bool true, .slice none 0 0, .bool false, .int .i64 0, .slice none 0 0, .slice none 0 0] 69)) (by simp) hb); clear hb hbx hR))
  go_loopw [3] (fun i wr => ∃ j : Nat, i = .int .i64 (j : Int) ∧ j ≤ 512 ∧ w2 = wr) (fun i _ => 512 - (intOf i).toNat)
  case atStart => exact ⟨0, rfl, by omega, rfl⟩
  case round =>
    obtain ⟨j, rfl, hj, rfl⟩ := hrel
    by_cases hlt : j < 512
    · obtain ⟨ad, rfl, hc⟩ := C_at HC.out j hlt
      have hcj : w2.cell? (ad.add j) = some (.int .i64 0) := by
        rw [hc, List.getD_eq_getElem?_getD, List.getElem?_replicate]
        split <;> rfl
      clear hc
      go_wp2
      exact ⟨⟨j + 1, by simp, by omega, trivial⟩, by simp [intOf]; omega⟩
    · obtain rfl : j = 512 := by omega
      go_wp2
      go_ret
      exact ⟨rfl, HB2.out⟩

set_option maxRecDepth 100000 in
set_option maxHeartbeats 2000000 in
theorem decNames_calls (w : World) : Calls Tryz.prog 8 #[] w fun e w' => e = .returned (.bool true) ∧ Below w.heap.size w w' := by
  go_enter Tryz.func8, Tryz.ntmps8
  go_wp2_with (first
    | (go_at_call 25; go_must (refine (play_nil _).mono ?_; rintro e w1 ⟨⟨gp, rfl, b1⟩, hb1⟩); have HB1 := Aside0.mk hb1; clear hb1)
    | (go_at_call_has 27 (Value.int .i64 1); go_must (refine (decode_nil w1).mono ?_; rintro e w2 ⟨⟨gq, rfl, b2⟩, hb2⟩); have HB2 := Aside0.mk (below_then HB1.out HB1.out.size hb2); have K2 := Aside0.mk (KeepsC.of_below hb2); clear hb2)
    | (go_at_call_has 27 (Value.int .i64 3); go_must (refine (decode_three w2).mono ?_; rintro e w3 ⟨rfl, hb3⟩); have HB3 := Aside0.mk (below_then HB2.out HB2.out.size hb3); have K3 := Aside0.mk (KeepsC.of_below hb3); clear hb3)
    | (go_at_call 23; go_must (refine (decAlive_calls w3).mono ?_; rintro e w4 ⟨rfl, hb4⟩); have HB4 := Aside0.mk (below_then HB3.out HB3.out.size hb4); have K4 := KeepsC.of_below hb4; have d1 := (Boxed.keepsC b1 ((K2.out.trans K3.out).trans K4)).cell; have d2 := (Boxed.keepsC b2 (K3.out.trans K4)).cell; clear hb4 K4))
  go_ret
  exact ⟨rfl, HB4.out⟩
end Go.Proofs.YtplmmoaljlnbdaaGreat.Hd
end
