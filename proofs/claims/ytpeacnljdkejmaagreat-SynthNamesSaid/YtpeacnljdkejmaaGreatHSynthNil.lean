/- synth.All where the config may not be, and of no frames. -/
import Derived.Test.YtpeacnljdkejmaaGreatHFunc
import Derived.Test.YtpeacnljdkejmaaGreatPSynthNamesx1
namespace Go.Proofs.YtpeacnljdkejmaaGreat.H
open Go.RowKit Go.Shelf Go.Proofs.YtpeacnljdkejmaaGreatW.PrintWords Go.Proofs.YtpeacnljdkejmaaGreatW.PrintMore
set_option linter.unusedVariables false
set_option linter.unusedSimpArgs false
attribute [local go_sem] Oper.semAt_some

set_option maxRecDepth 100000 in
set_option maxHeartbeats 1000000 in
theorem all_bad3 (w : World) : Calls Tryz.prog 8 #[.agg #[.int .i64 0, .int .i64 3, .bool false, .int .i64 0], .slice none 0 0] w fun e w' => e = .returned (.tuple #[.slice none 0 0, .int .i64 2]) ∧ Below w.heap.size w w' := by
  have hu := Tryz.underlying30
  go_enter Tryz.func8, Tryz.ntmps8
  go_wp2
  refine bodyPost_ret (results_cells2 rfl _ _ ⟨w.heap.size + 1, 0, none⟩ ⟨w.heap.size + 1 + 1, 0, none⟩ (.slice none 0 0) (.int .i64 2) _ _ rfl rfl Tryz.underlying26 rfl Tryz.underlying23 rfl ?_ ?_) rfl ⟨rfl, ?_⟩
  · simpa using ((Boxed.new (w.alloc (.cells #[.int .i64 0, .int .i64 3, .bool false, .int .i64 0] 30)) 26 (.slice none 0 0)).alloc (.cells #[.int .i64 2] 23)).cell
  · simpa using (Boxed.new ((w.alloc (.cells #[.int .i64 0, .int .i64 3, .bool false, .int .i64 0] 30)).alloc (.cells #[.slice none 0 0] 26)) 23 (.int .i64 2)).cell
  · exact (((Below.refl _ _).alloc (Nat.le_refl _) _).alloc (by simp) _).alloc (by simp <;> omega) _

set_option maxRecDepth 100000 in
set_option maxHeartbeats 1000000 in
theorem all_bad12 (w : World) : Calls Tryz.prog 8 #[.agg #[.int .i64 12, .int .i64 2, .bool false, .int .i64 0], .slice none 0 0] w fun e w' => e = .returned (.tuple #[.slice none 0 0, .int .i64 2]) ∧ Below w.heap.size w w' := by
  have hu := Tryz.underlying30
  go_enter Tryz.func8, Tryz.ntmps8
  go_wp2
  refine bodyPost_ret (results_cells2 rfl _ _ ⟨w.heap.size + 1, 0, none⟩ ⟨w.heap.size + 1 + 1, 0, none⟩ (.slice none 0 0) (.int .i64 2) _ _ rfl rfl Tryz.underlying26 rfl Tryz.underlying23 rfl ?_ ?_) rfl ⟨rfl, ?_⟩
  · simpa using ((Boxed.new (w.alloc (.cells #[.int .i64 12, .int .i64 2, .bool false, .int .i64 0] 30)) 26 (.slice none 0 0)).alloc (.cells #[.int .i64 2] 23)).cell
  · simpa using (Boxed.new ((w.alloc (.cells #[.int .i64 12, .int .i64 2, .bool false, .int .i64 0] 30)).alloc (.cells #[.slice none 0 0] 26)) 23 (.int .i64 2)).cell
  · exact (((Below.refl _ _).alloc (Nat.le_refl _) _).alloc (by simp) _).alloc (by simp <;> omega) _

theorem new1 : PSynthNames.synth_New.f 5 1 = some ([⟨List.replicate 256 0, 0, 0⟩], 0) := by
  have h1 : PSynthNames.lap_New.f = some (List.replicate 256 0, 0, 0) := by unfold PSynthNames.lap_New.f; rw [if_pos (by decide)]
  generalize List.replicate 256 (0 : Int) = z at h1 ⊢
  simp [PSynthNames.synth_New.f, PSynthNames.synth_New.j0, PSynthNames.synth_New.l0, h1, wrap64]
theorem new3 : PSynthNames.synth_New.f 5 3 = some ([], 2) := by
  simp [PSynthNames.synth_New.f, PSynthNames.synth_New.j0]
theorem info_slice : (Tryz.prog.info? 34).map (fun i => (i.zero, i.size, i.bytes)) = some (some (.slice none 0 0), 1, 24) := by kernel_rfl
set_option maxRecDepth 100000 in
set_option maxHeartbeats 1000000 in
theorem played1_nil (Bc Bl : Nat) (w : World) (hBc : Bc < w.heap.size) (hBl : Bl < w.heap.size) (hc : w.cell? ⟨Bc, 1, none⟩ = some (.int .i64 1)) (hl : w.cell? ⟨Bl, 0, none⟩ = some (.slice none 0 0)) :
    SeqStopsK Fence.wide 9 Tryz.prog 36 #[.pointer (some ⟨Bc, 0, none⟩), .pointer (some ⟨Bl, 0, none⟩)] (fun x : Empty => nomatch x) (Kpt 0 (fun _ => False)) (fun ys => ys = []) (fun _ => False) 0 w := by
  intro l J Jx W hW hJ hJx hY h0
  refine callsIn_wide.2 ?_
  have hc' := (hW.cell (p := ⟨Bc, 1, none⟩) hBc).trans hc
  have hl' := (hW.cell (p := ⟨Bl, 0, none⟩) hBl).trans hl
  have HW := Aside0.mk hW
  clear hc hl hW
  simp only [List.push_toArray, List.append_toArray, List.nil_append, List.cons_append]
  go_enter Tryz.func36, Tryz.ntmps36
  have hn := PSynthNames.synth_New.calls 5 1 [⟨List.replicate 256 0, 0, 0⟩] 0 W new1
  go_wp2_with (go_at_call 7; go_must (refine hn.mono ?_; rintro e w' ⟨v, rfl, ho, hb⟩); have l1 := (hb.cell (p := ⟨Bl, 0, none⟩) (Nat.lt_of_lt_of_le hBl HW.out.size)).trans hl'; have HB := Aside0.mk hb; clear hb ho)
  go_loopw [17] (fun i wr => i = .int .i64 0 ∧ wr = w') (fun _ _ => 0)
  case atStart => exact ⟨rfl, rfl⟩
  case round =>
    obtain ⟨rfl, rfl⟩ := hrel
    go_wp2
    refine bodyPost_end (results_none rfl _ _ _) rfl ?_
    exact ⟨⟨_, rfl⟩, .inl ⟨[], rfl, hJ [] W _ none h0 (grown_of_below HB.out none) (fun r e => by cases e)⟩⟩

theorem played_calls (cs : Array Value) (v : Value) (w : World) (hcs : cs = #[.int .i64 0, .int .i64 1, .bool false, .int .i64 0]) (hv : v = .slice none 0 0) :
    Calls Tryz.prog 21 #[.agg cs, v] w fun e w' => e = .returned (.func (.func 36) #[] #[.pointer (some ⟨w.heap.size, 0, none⟩), .pointer (some ⟨w.heap.size + 1, 0, none⟩)]) ∧ w' = (w.alloc (.cells cs 30)).alloc (.cells #[v] 32) := by
  subst hcs hv
  go_enter Tryz.func21, Tryz.ntmps21
  go_wp2
  go_ret
  exact ⟨rfl, rfl⟩

set_option maxRecDepth 100000 in
set_option maxHeartbeats 1000000 in
theorem all_nil (w : World) : Calls Tryz.prog 8 #[.agg #[.int .i64 0, .int .i64 1, .bool false, .int .i64 0], .slice none 0 0] w fun e w' => (∃ b, e = .returned (.tuple #[.slice (some ⟨b, 0, none⟩) 1 1, .int .i64 0]) ∧ w'.cell? ⟨b, 0, none⟩ = some (.slice none 0 0)) ∧ Below w.heap.size w w' := by
  have hu := Tryz.underlying30
  refine callsIn_wide.1 (callsIn_of_wp_marks (n := 10) Tryz.func8 rfl trivial ?_)
  simp only [Tryz.ntmps8, List.size_toArray, List.length_cons, List.length_nil, Nat.reduceAdd, Nat.reduceSub, Array.replicate_succ, Array.replicate_zero, List.push_toArray, List.append_toArray, List.nil_append, List.cons_append]
  obtain ⟨i0, hi, hz0, hz1, hz2⟩ := info_parts info_slice
  have hmk := fun W => run_make (P := Tryz.prog) W 26 34 i0 (.slice none 0 0) Tryz.underlying26 hi hz0 .i64 .i64 1 1 (by omega) (by omega) (by rw [hz2]; omega) (by omega)
  gi_wp2_with (refine ⟨trivial, ?_⟩; gi_at_call 21; refine (callsIn_wide.2 (played_calls _ _ _ rfl rfl)).mono ?_; rintro e w' ⟨rfl, rfl⟩)
  clear hmk
  have b1 := ((((((Boxed.new (w.alloc (.cells #[.int .i64 0, .int .i64 1, .bool false, .int .i64 0] 30)) 26 (.slice none 0 0)).alloc (.cells #[.int .i64 0] 23)).alloc (.cells (madeCells #[.slice none 0 0] 1) 34)).alloc (.cells #[.slice (some ⟨w.heap.size + 1 + 1 + 1, 0, none⟩) 1 1] 26)).alloc (.cells #[.int .i64 0, .int .i64 1, .bool false, .int .i64 0] 30)).alloc (.cells #[.slice none 0 0] 32))
  have b2 := (((((Boxed.new ((w.alloc (.cells #[.int .i64 0, .int .i64 1, .bool false, .int .i64 0] 30)).alloc (.cells #[.slice none 0 0] 26)) 23 (.int .i64 0)).alloc (.cells (madeCells #[.slice none 0 0] 1) 34)).alloc (.cells #[.slice (some ⟨w.heap.size + 1 + 1 + 1, 0, none⟩) 1 1] 26)).alloc (.cells #[.int .i64 0, .int .i64 1, .bool false, .int .i64 0] 30)).alloc (.cells #[.slice none 0 0] 32))
  have b3 : Boxed (((((((w.alloc (.cells #[.int .i64 0, .int .i64 1, .bool false, .int .i64 0] 30)).alloc (.cells #[.slice none 0 0] 26)).alloc (.cells #[.int .i64 0] 23)).alloc (.cells (madeCells #[.slice none 0 0] 1) 34)).alloc (.cells #[.slice (some ⟨w.heap.size + 1 + 1 + 1, 0, none⟩) 1 1] 26)).alloc (.cells #[.int .i64 0, .int .i64 1, .bool false, .int .i64 0] 30)).alloc (.cells #[.slice none 0 0] 32)) (w.heap.size + 1 + 1 + 1) 34 (.slice none 0 0) := by
    have h := ((((Boxed.new (((w.alloc (.cells #[.int .i64 0, .int .i64 1, .bool false, .int .i64 0] 30)).alloc (.cells #[.slice none 0 0] 26)).alloc (.cells #[.int .i64 0] 23)) 34 (.slice none 0 0)).alloc (.cells #[.slice (some ⟨w.heap.size + 1 + 1 + 1, 0, none⟩) 1 1] 26)).alloc (.cells #[.int .i64 0, .int .i64 1, .bool false, .int .i64 0] 30)).alloc (.cells #[.slice none 0 0] 32))
    simp only [World.size_alloc] at h
    have hm : madeCells #[Value.slice none 0 0] 1 = #[Value.slice none 0 0] := by first | rfl | decide | kernel_rfl
    rw [hm]
    exact h
  have b4 := (((Boxed.new ((((w.alloc (.cells #[.int .i64 0, .int .i64 1, .bool false, .int .i64 0] 30)).alloc (.cells #[.slice none 0 0] 26)).alloc (.cells #[.int .i64 0] 23)).alloc (.cells (madeCells #[.slice none 0 0] 1) 34)) 26 (.slice (some ⟨w.heap.size + 1 + 1 + 1, 0, none⟩) 1 1)).alloc (.cells #[.int .i64 0, .int .i64 1, .bool false, .int .i64 0] 30)).alloc (.cells #[.slice none 0 0] 32))
  have c5 : (((((((w.alloc (.cells #[.int .i64 0, .int .i64 1, .bool false, .int .i64 0] 30)).alloc (.cells #[.slice none 0 0] 26)).alloc (.cells #[.int .i64 0] 23)).alloc (.cells (madeCells #[.slice none 0 0] 1) 34)).alloc (.cells #[.slice (some ⟨w.heap.size + 1 + 1 + 1, 0, none⟩) 1 1] 26)).alloc (.cells #[.int .i64 0, .int .i64 1, .bool false, .int .i64 0] 30)).alloc (.cells #[.slice none 0 0] 32)).cell? ⟨w.heap.size + 1 + 1 + 1 + 1 + 1, 1, none⟩ = some (.int .i64 1) := by
    have h := heap_alloc_old (((((((w.alloc (.cells #[.int .i64 0, .int .i64 1, .bool false, .int .i64 0] 30)).alloc (.cells #[.slice none 0 0] 26)).alloc (.cells #[.int .i64 0] 23)).alloc (.cells (madeCells #[.slice none 0 0] 1) 34)).alloc (.cells #[.slice (some ⟨w.heap.size + 1 + 1 + 1, 0, none⟩) 1 1] 26)).alloc (.cells #[.int .i64 0, .int .i64 1, .bool false, .int .i64 0] 30))) (.cells #[.slice none 0 0] 32) (w.heap.size + 1 + 1 + 1 + 1 + 1) (by simp <;> omega)
    have h2 := heap_alloc_new ((((((w.alloc (.cells #[.int .i64 0, .int .i64 1, .bool false, .int .i64 0] 30)).alloc (.cells #[.slice none 0 0] 26)).alloc (.cells #[.int .i64 0] 23)).alloc (.cells (madeCells #[.slice none 0 0] 1) 34)).alloc (.cells #[.slice (some ⟨w.heap.size + 1 + 1 + 1, 0, none⟩) 1 1] 26))) (.cells #[.int .i64 0, .int .i64 1, .bool false, .int .i64 0] 30)
    simp only [World.size_alloc] at h2
    simp only [World.cell?, h.trans h2]
    rfl
  have b6 := (Boxed.new ((((((w.alloc (.cells #[.int .i64 0, .int .i64 1, .bool false, .int .i64 0] 30)).alloc (.cells #[.slice none 0 0] 26)).alloc (.cells #[.int .i64 0] 23)).alloc (.cells (madeCells #[.slice none 0 0] 1) 34)).alloc (.cells #[.slice (some ⟨w.heap.size + 1 + 1 + 1, 0, none⟩) 1 1] 26)).alloc (.cells #[.int .i64 0, .int .i64 1, .bool false, .int .i64 0] 30)) 32 (.slice none 0 0))
  simp only [World.size_alloc] at b1 b2 b4 b6
  have hb0 : Below w.heap.size w (((((((w.alloc (.cells #[.int .i64 0, .int .i64 1, .bool false, .int .i64 0] 30)).alloc (.cells #[.slice none 0 0] 26)).alloc (.cells #[.int .i64 0] 23)).alloc (.cells (madeCells #[.slice none 0 0] 1) 34)).alloc (.cells #[.slice (some ⟨w.heap.size + 1 + 1 + 1, 0, none⟩) 1 1] 26)).alloc (.cells #[.int .i64 0, .int .i64 1, .bool false, .int .i64 0] 30)).alloc (.cells #[.slice none 0 0] 32)) := ((((((((Below.refl w.heap.size w).alloc (Nat.le_refl _) (.cells #[.int .i64 0, .int .i64 1, .bool false, .int .i64 0] 30)).alloc (by simp) (.cells #[.slice none 0 0] 26)).alloc (by simp <;> omega) (.cells #[.int .i64 0] 23)).alloc (by simp <;> omega) (.cells (madeCells #[.slice none 0 0] 1) 34)).alloc (by simp <;> omega) (.cells #[.slice (some ⟨w.heap.size + 1 + 1 + 1, 0, none⟩) 1 1] 26)).alloc (by simp <;> omega) (.cells #[.int .i64 0, .int .i64 1, .bool false, .int .i64 0] 30)).alloc (by simp <;> omega) (.cells #[.slice none 0 0] 32))
  have hs0 : (((((((w.alloc (.cells #[.int .i64 0, .int .i64 1, .bool false, .int .i64 0] 30)).alloc (.cells #[.slice none 0 0] 26)).alloc (.cells #[.int .i64 0] 23)).alloc (.cells (madeCells #[.slice none 0 0] 1) 34)).alloc (.cells #[.slice (some ⟨w.heap.size + 1 + 1 + 1, 0, none⟩) 1 1] 26)).alloc (.cells #[.int .i64 0, .int .i64 1, .bool false, .int .i64 0] 30)).alloc (.cells #[.slice none 0 0] 32)).heap.size = w.heap.size + 7 := by simp
  generalize (((((((w.alloc (.cells #[.int .i64 0, .int .i64 1, .bool false, .int .i64 0] 30)).alloc (.cells #[.slice none 0 0] 26)).alloc (.cells #[.int .i64 0] 23)).alloc (.cells (madeCells #[.slice none 0 0] 1) 34)).alloc (.cells #[.slice (some ⟨w.heap.size + 1 + 1 + 1, 0, none⟩) 1 1] 26)).alloc (.cells #[.int .i64 0, .int .i64 1, .bool false, .int .i64 0] 30)).alloc (.cells #[.slice none 0 0] 32)) = W0 at b1 b2 b3 b4 c5 b6 hb0 hs0 ⊢
  replace hb0 := Aside0.mk hb0
  refine wpIn_rangeFunc_ownG (n := 10) (α := Empty) rfl (by omega) (gf := 36) (lb := #[.pointer (some ⟨w.heap.size + 1 + 1 + 1 + 1 + 1, 0, none⟩), .pointer (some ⟨w.heap.size + 1 + 1 + 1 + 1 + 1 + 1, 0, none⟩)]) rfl trivial (enters_of Tryz.func36 (by kernel_rfl) rfl)
    (played1_nil _ _ W0 (by omega) (by omega) c5 b6.cell) Kpt.trans (Kpt.book (w := W0) (Nat.zero_le _) (fun _ h => h.elim)) (Below.refl _ _) (fun x => nomatch x)
    (fun pre W => Boxed W (w.heap.size + 1) 26 (.slice none 0 0) ∧ Boxed W (w.heap.size + 1 + 1) 23 (.int .i64 0) ∧ Boxed W (w.heap.size + 1 + 1 + 1) 34 (.slice none 0 0) ∧ Boxed W (w.heap.size + 1 + 1 + 1 + 1) 26 (.slice (some ⟨w.heap.size + 1 + 1 + 1, 0, none⟩) 1 1) ∧ Below w.heap.size w W)
    (fun _ _ _ => False) ?own (fun _ _ _ _ _ hs _ _ => hs) ⟨b1, b2, b3, b4, hb0.out⟩ (fun x => nomatch x) (fun l x => nomatch x) (fun l pre x => nomatch x) ?done ?stop
  case own =>
    exact OwnFrom.and ((boxed_own _ _ (fun _ => _)).from _) (OwnFrom.and ((boxed_own _ _ (fun _ => _)).from _) (OwnFrom.and ((boxed_own _ _ (fun _ => _)).from _) (OwnFrom.and ((boxed_own _ _ (fun _ => _)).from _) (ownFrom_below (by omega) (by omega)))))
  case stop =>
    rintro D c pre W _ _ h _
    exact h.elim
  case done =>
    rintro D ys W hD rfl ⟨b1, b2, b3, b4, hB⟩ hK
    have HB := Aside0.mk hB
    clear hB
    have e4 := b4.cell
    have e1 := b1.cell
    have f1 := b1.frozen
    have b2' := b2.other (B' := w.heap.size + 1) (by omega) (.slice (some ⟨w.heap.size + 1 + 1 + 1, 0, none⟩) 1 1)
    have e2 := b2'.cell
    have f2 := b2'.frozen
    gi_wp2
    have hK2 := setCell_heap_other (B := w.heap.size + 1 + 1) (.int .i64 0) (setCell_heap_other (B := w.heap.size + 1) (.slice (some ⟨w.heap.size + 1 + 1 + 1, 0, none⟩) 1 1) hK (by omega)) (by omega)
    refine ⟨by simp, .inl ⟨_, _, rfl, run_takeDeferred hK2, ?_⟩⟩
    have d1 := (boxed_putObj (D := D) ((b1.set (.slice (some ⟨w.heap.size + 1 + 1 + 1, 0, none⟩) 1 1)).other (B' := w.heap.size + 1 + 1) (by omega) (.int .i64 0)) (.deferred none) (by omega)).cell
    have d2 := (boxed_putObj (D := D) (b2'.set (.int .i64 0)) (.deferred none) (by omega)).cell
    have d3 := (boxed_putObj (D := D) ((b3.other (B' := w.heap.size + 1) (by omega) (.slice (some ⟨w.heap.size + 1 + 1 + 1, 0, none⟩) 1 1)).other (B' := w.heap.size + 1 + 1) (by omega) (.int .i64 0)) (.deferred none) (by omega)).cell
    exact ⟨_, results_cells2 rfl _ _ ⟨w.heap.size + 1, 0, none⟩ ⟨w.heap.size + 1 + 1, 0, none⟩ (.slice (some ⟨w.heap.size + 1 + 1 + 1, 0, none⟩) 1 1) (.int .i64 0) _ _ rfl rfl Tryz.underlying26 rfl Tryz.underlying23 rfl d1 d2, ⟨_, rfl, d3⟩,
      ((HB.out.setCell (p := ⟨w.heap.size + 1, 0, none⟩) (by simp) _).setCell (p := ⟨w.heap.size + 1 + 1, 0, none⟩) (by simp; omega) _).trans (belowK_b (w := w) (Nat.le_refl _) _ D _ _ (by omega) hK2 rfl rfl)⟩
end Go.Proofs.YtpeacnljdkejmaaGreat.H
