/- Gathered by a program (wip/merge.py): PB0x234, HRun, PB0x1, PB0x2, HSilence. -/
import Derived.Deep.RegionHeld3
import Derived.RegionTactic
import Derived.ChangeAlike
import Derived.BigRegion
import Derived.Test.YtplmmoaljlnbdaaGreatMDnx2
import Derived.Test.YtplmmoaljlnbdaaGreatMDnx7

section
-- Written by a program of this session (wip/hprint.py), out of the translation's own print.
namespace Go.Proofs.YtplmmoaljlnbdaaGreat.Hd
open Go.RowKit Go.Proofs.YtplmmoaljlnbdaaGreatW.PrintWords Go.Proofs.YtplmmoaljlnbdaaGreatW.PrintLast Go.Proofs.YtplmmoaljlnbdaaGreatW.PrintMore Go.Proofs.YtplmmoaljlnbdaaGreat.Hd
attribute [local go_sem] max2_int min2_int max_two min_two max_three min_three max_four min_four   -- for this text's walks alone
set_option linter.unusedVariables false
set_option linter.unusedSimpArgs false

/-! ### lose_Seq: function 80 -/
def lose_Seq.j0 : Nat → Int → Bool → Option (Int × Int)
  | 0, _, _ => none
  | k + 1, x4, x5 => if x5 = true then (some (0, 0)) else (if x4 = 1 then (some (3, 0)) else (if x4 = 2 then (some (3, 0)) else (some (0, 2))))
def lose_Seq.f (k : Nat) (a0 : Int) : Option (Int × Int) := if a0 = 0 then (lose_Seq.j0 k a0 (a0 == 0)) else (lose_Seq.j0 k a0 (a0 == 3))
theorem lose_Seq.mono_l : ∀ k, (∀ y0 y1, LeO (lose_Seq.j0 k y0 y1) (lose_Seq.j0 (k + 1) y0 y1))
  | 0 => fun _ _ r h => by simp [lose_Seq.j0] at h
  | k + 1 => by
    have ih0 := lose_Seq.mono_l k
    · intro y0 y1
      unfold lose_Seq.j0
      repeat' first
      | (with_reducible exact ih0 _ _)
      | (with_reducible exact LeO.refl _)
      | (with_reducible exact LeO.none _)
      | (with_reducible refine LeO.ite ?_ ?_)
      | (with_reducible refine LeO.bind ?_ (fun _ => ?_))
      | exact ih0 _ _
      | exact LeO.none _
      | refine LeO.ite ?_ ?_
      | refine LeO.bind ?_ (fun _ => ?_)
theorem lose_Seq.mono : ∀ a0 k, LeO (lose_Seq.f k a0) (lose_Seq.f (k + 1) a0) := by
  intro a0 k
  have ih0 := lose_Seq.mono_l k
  unfold lose_Seq.f
  repeat' first
      | (with_reducible exact ih0 _ _)
      | (with_reducible exact LeO.refl _)
      | (with_reducible exact LeO.none _)
      | (with_reducible refine LeO.ite ?_ ?_)
      | (with_reducible refine LeO.bind ?_ (fun _ => ?_))
      | exact ih0 _ _
      | exact LeO.none _
      | refine LeO.ite ?_ ?_
      | refine LeO.bind ?_ (fun _ => ?_)
set_option maxHeartbeats 8000000 in
set_option maxRecDepth 100000 in
theorem lose_Seq.calls (k : Nat) (a0 : Int) (r1 : Int) (r2 : Int) (w : World) (h : lose_Seq.f k a0 = some (r1, r2)) :
    Calls Tryz.prog 80 #[.int .u8 a0] w fun e w' => e = .returned (.tuple #[.int .u8 r1, .int .i64 r2]) ∧ Drawn0 w w' := by
  have H : (if a0 = 0 then (lose_Seq.j0 k a0 (a0 == 0)) else (lose_Seq.j0 k a0 (a0 == 3))) = some (r1, r2) := h
  clear h
  have HC2 := Aside0.mk H
  clear H
  go_enter Tryz.func80, Tryz.ntmps80
  go_upto_if 5 with (fail)
  go_cut [5] (fun v5 wc => ∃ (kq : Nat) (x5_1 : Bool), v5 = .bool x5_1 ∧ Aside0 (lose_Seq.j0 kq a0 x5_1 = some (r1, r2)) ∧ Aside0 (kq ≤ k) ∧ Drawn0 w wc)
  case first =>
    have H := HC2.out
    clear HC2
    by_cases c3 : a0 = 0
    · rw [if_pos c3] at H
      have c3b0 : (a0 == 0) = true := beq_iff_eq.mpr c3
      have c3b1 : (a0 != 0) = false := bne_eq_false_iff_eq.mpr c3
      clear c3
      (first | rw [c3b0] | (simp only [i64_w, i32_w]; rw [c3b0]) | skip)
      have H' := Aside0.mk H
      clear H
      go_wp2
      go_meet
      case rel => exact ⟨_, ((a0 == 0)), (by first | rfl | (simp; done) | (simp [*]; done)), H', ⟨by first | omega | exact Nat.le_refl _⟩, by repeat (first | exact Drawn0.refl _ | apply Drawn0.step)⟩
    · rw [if_neg c3] at H
      have c3b0 : (a0 == 0) = false := beq_eq_false_iff_ne.mpr c3
      have c3b1 : (a0 != 0) = true := bne_iff_ne.mpr c3
      (first | rw [c3b0] | (simp only [i64_w, i32_w]; rw [c3b0]) | skip)
      have H' := Aside0.mk H
      clear H
      go_wp2
      go_meet
      case rel => exact ⟨_, ((a0 == 3)), (by first | rfl | (simp; done) | (simp [*]; done)), H', ⟨by first | omega | exact Nat.le_refl _⟩, by repeat (first | exact Drawn0.refl _ | apply Drawn0.step)⟩
  case rest =>
    clear HC2
    try clear p2
    try clear c3
    try clear c3b0
    try clear c3b1
    obtain ⟨kq, x5_1, rfl, HA, HJ1, ⟨mc1, rfl⟩⟩ := hcut
    cases kq with
    | zero => exact absurd HA.out (by simp [lose_Seq.j0])
    | succ kj1 =>
      have H := HA.out
      clear HA
      simp only [lose_Seq.j0] at H
      by_cases c4 : x5_1 = true
      · subst c4
        have H1 : (some (0, 0)) = some (r1, r2) := by rw [if_pos rfl] at H; exact H
        clear H
        have H := H1
        clear H1
        simp only [Option.some.injEq, Prod.mk.injEq] at H
        obtain ⟨rfl, rfl⟩ := H
        go_wp2
        go_ret2
        exact ⟨by first | rfl | (simp; done) | (simp [*]; done), by repeat (first | exact Drawn0.refl _ | apply Drawn0.step)⟩
      · replace c4 := Bool.eq_false_iff.mpr c4
        subst c4
        have H1 : (if a0 = 1 then (some (3, 0)) else (if a0 = 2 then (some (3, 0)) else (some (0, 2)))) = some (r1, r2) := by rw [if_neg (show ¬ (false = true) by decide)] at H; exact H
        clear H
        have H := H1
        clear H1
        by_cases c5 : a0 = 1
        · rw [if_pos c5] at H
          have c5b0 : (a0 == 1) = true := beq_iff_eq.mpr c5
          have c5b1 : (a0 != 1) = false := bne_eq_false_iff_eq.mpr c5
          clear c5
          simp only [Option.some.injEq, Prod.mk.injEq] at H
          obtain ⟨rfl, rfl⟩ := H
          go_wp2
          go_ret2
          exact ⟨by first | rfl | (simp; done) | (simp [*]; done), by repeat (first | exact Drawn0.refl _ | apply Drawn0.step)⟩
        · rw [if_neg c5] at H
          have c5b0 : (a0 == 1) = false := beq_eq_false_iff_ne.mpr c5
          have c5b1 : (a0 != 1) = true := bne_iff_ne.mpr c5
          by_cases c6 : a0 = 2
          · rw [if_pos c6] at H
            have c6b0 : (a0 == 2) = true := beq_iff_eq.mpr c6
            have c6b1 : (a0 != 2) = false := bne_eq_false_iff_eq.mpr c6
            clear c6
            simp only [Option.some.injEq, Prod.mk.injEq] at H
            obtain ⟨rfl, rfl⟩ := H
            go_wp2
            go_ret2
            exact ⟨by first | rfl | (simp; done) | (simp [*]; done), by repeat (first | exact Drawn0.refl _ | apply Drawn0.step)⟩
          · rw [if_neg c6] at H
            have c6b0 : (a0 == 2) = false := beq_eq_false_iff_ne.mpr c6
            have c6b1 : (a0 != 2) = true := bne_iff_ne.mpr c6
            simp only [Option.some.injEq, Prod.mk.injEq] at H
            obtain ⟨rfl, rfl⟩ := H
            go_wp2
            go_ret2
            exact ⟨by first | rfl | (simp; done) | (simp [*]; done), by repeat (first | exact Drawn0.refl _ | apply Drawn0.step)⟩

end Go.Proofs.YtplmmoaljlnbdaaGreat.Hd
end

section
/- dec: a player's run over lost frames from the beginning, of one channel: silence. -/
namespace Go.Proofs.YtplmmoaljlnbdaaGreat.Hd
open Go.RowKit Go.Shelf Go.Proofs.YtplmmoaljlnbdaaGreatW.PrintWords Go.Proofs.YtplmmoaljlnbdaaGreatW.PrintMore
set_option linter.unusedVariables false
set_option linter.unusedSimpArgs false

/-- What holds between two lost frames: silence. -/
def RunSt (g gl gp b7 b8 : Nat) (As : Option Addr) (ns cs cl B0 : Nat) (z : List Int) (W : World) (j : Nat) (wr : World) : Prop :=
  wr.heap[g]? = some (Obj.cells #[.int .i64 0, .int .i64 1, .bool false, .int .i64 0, .slice As ns cs, .slice (some ⟨gl, 0, none⟩) 1 cl, .slice (some ⟨gp, 0, none⟩) 1 1] 99 (0, 0)) ∧
  (∃ (cells : Array Value) (tv pv bv : Value), wr.heap[gl]? = some (Obj.cells cells 49 (0, 0)) ∧ cells[0]? = some tv ∧ cells[1]? = some (.int .u8 0) ∧ cells[2]? = some (.int .u8 0) ∧ Kd.R (Kd.int .i64) 3 wr 0 (fun _ => True) tv z ∧
    Boxed wr gp 31 pv ∧ Kd.R (Kd.int .i64) 3 wr B0 (fun _ => True) pv (List.replicate (256 * j) 0) ∧ NeRow pv tv ∧ Boxed wr b7 31 bv ∧ ((j = 0 ∧ bv = .slice none 0 0) ∨ (0 < j ∧ Kd.R (Kd.int .i64) 3 wr 0 (fun _ => True) bv z ∧ NeRow pv bv))) ∧
  Boxed wr b8 31 (.slice none 0 0) ∧ Below B0 W wr
theorem R_set3 {α : Type} {d : Kd α} {e base g t : Nat} {ok : Nat → Prop} {w : World} {v : Value} {xs : List α} {cells : Array Value} (h : d.R e w base ok v xs) (hb : w.heap[g]? = some (Obj.cells cells t (0, 0))) (ht : ∀ q, q ∈ e :: d.E → q ≠ t) (u0 u1 u2 : Value) :
    d.R e (((w.setCell ⟨g, 0, none⟩ u0).setCell ⟨g, 1, none⟩ u1).setCell ⟨g, 2, none⟩ u2) base ok v xs := Kd.R_set (Kd.R_set (Kd.R_set h hb ht 0 u0) (blk_set hb 0 u0) ht 1 u1) (blk_set (blk_set hb 0 u0) 1 u1) ht 2 u2
theorem far3 {w : World} {g g' t : Nat} {cs : Array Value} (h : w.heap[g]? = some (Obj.cells cs t (0, 0))) (hne : g ≠ g') (u0 u1 u2 : Value) :
    (((w.setCell ⟨g', 0, none⟩ u0).setCell ⟨g', 1, none⟩ u1).setCell ⟨g', 2, none⟩ u2).heap[g]? = some (Obj.cells cs t (0, 0)) := blk_far (blk_far (blk_far h (p := ⟨g', 0, none⟩) hne u0) (p := ⟨g', 1, none⟩) hne u1) (p := ⟨g', 2, none⟩) hne u2
theorem set3 {w : World} {g t : Nat} {cs : Array Value} (h : w.heap[g]? = some (Obj.cells cs t (0, 0))) (u0 u1 u2 : Value) :
    (((w.setCell ⟨g, 0, none⟩ u0).setCell ⟨g, 1, none⟩ u1).setCell ⟨g, 2, none⟩ u2).heap[g]? = some (Obj.cells (((cs.setIfInBounds 0 u0).setIfInBounds 1 u1).setIfInBounds 2 u2) t (0, 0)) := blk_set (blk_set (blk_set h 0 u0) 1 u1) 2 u2
theorem cells3 {cs : Array Value} {x u0 u1 u2 : Value} (h : cs[2]? = some x) : (((cs.setIfInBounds 0 u0).setIfInBounds 1 u1).setIfInBounds 2 u2)[0]? = some u0 ∧ (((cs.setIfInBounds 0 u0).setIfInBounds 1 u1).setIfInBounds 2 u2)[1]? = some u1 ∧ (((cs.setIfInBounds 0 u0).setIfInBounds 1 u1).setIfInBounds 2 u2)[2]? = some u2 := by
  have hs : 2 < cs.size := (Array.getElem?_eq_some_iff.1 h).1
  have h0 : 0 < cs.size := by omega
  have h1 : 1 < cs.size := by omega
  refine ⟨?_, ?_, ?_⟩ <;> simp [Array.getElem?_setIfInBounds, hs, h0, h1]

set_option maxRecDepth 100000 in
set_option maxHeartbeats 1000000 in
theorem run_calls (g gl gp : Nat) (As : Option Addr) (n cs cl B0 K : Nat) (z : List Int) (W : World) (hn : n ≤ 64) (hz : z = List.replicate 256 0)
    (hlose : ∀ j : Nat, j < n → lose_Lines.f z [] ((j : Int) + 1) (n : Int) = some (z, 0)) (hseq : lose_Seq.f K 0 = some (0, 0)) (hnext : lap_Next.f K z 0 0 0 0 z = some (z, 0, 0, z, 0)) (hB0 : B0 ≤ W.heap.size) (hg : B0 ≤ g) (hgl : B0 ≤ gl) (hgp : B0 ≤ gp)
    (hP : W.heap[g]? = some (Obj.cells #[.int .i64 0, .int .i64 1, .bool false, .int .i64 0, .slice As n cs, .slice (some ⟨gl, 0, none⟩) 1 cl, .slice (some ⟨gp, 0, none⟩) 1 1] 99 (0, 0)))
    (cells : Array Value) (tv : Value) (hl : W.heap[gl]? = some (Obj.cells cells 49 (0, 0))) (h0 : cells[0]? = some tv) (h1 : cells[1]? = some (.int .u8 0)) (h2 : cells[2]? = some (.int .u8 0)) (ht : Kd.R (Kd.int .i64) 3 W 0 (fun _ => True) tv z) (hp : Boxed W gp 31 (.slice none 0 0)) :
    Calls Tryz.prog 44 #[.pointer (some ⟨g, 0, none⟩), .int .i64 0, .int .i64 (n : Int)] W fun e W' => e = .returned (.int .i64 0) ∧ ∃ b7 b8, RunSt g gl gp b7 b8 As n cs cl B0 z W n W' := by
  have hs1 := fun at_ W hat hP => sides_calls g n cs at_ (.int .i64 0) (.bool false) (.int .i64 0) (.slice (some ⟨gl, 0, none⟩) 1 cl) (.slice (some ⟨gp, 0, none⟩) 1 1) As W hat hP
  obtain ⟨i0, hi, hz0, hz1, hz2⟩ := info_parts (info3 : (Tryz.prog.info? 3).map (fun i => (i.zero, i.size, i.bytes)) = _)
  have HZ := Aside0.mk hz
  have HP := Aside0.mk hP
  have HL := Aside0.mk hl
  have HT := Aside0.mk ht
  have HPP := Aside0.mk hp
  have H0 := Aside0.mk h0
  have H1 := Aside0.mk h1
  have H2 := Aside0.mk h2
  have HLO := Aside0.mk hlose
  have HSQ := Aside0.mk hseq
  have HNX := Aside0.mk hnext
  clear hz hP hl ht hp h0 h1 h2 hlose hseq hnext
  go_enter Tryz.func44, Tryz.ntmps44
  go_wp2_with (first
    | (go_at_call_has 78 (Value.int .i64 (-1)); go_must (refine (hs1 (-1) _ (.inl (by omega)) HP.out).mono ?_; rintro e w1 ⟨b7, rfl, hb7, bx7, hb1⟩); have HB1 := Aside0.mk hb1; have BX7 := Aside0.mk bx7; clear hb1 bx7)
    | (go_at_call 78; go_must (refine (hs1 (n : Int) _ (.inr (by omega)) (blk_below HP.out HB1.out)).mono ?_; rintro e w2 ⟨b8, rfl, hb8, bx8, hb2⟩); have HB2 := Aside0.mk hb2; have BX8 := Aside0.mk bx8; clear hb2 bx8))
  have hk2 := KeepsC.of_below (below_then HB1.out HB1.out.size HB2.out)
  have hst : RunSt g gl gp b7 b8 As n cs cl B0 z W 0 w2 :=
    ⟨hk2.same _ _ _ _ HP.out, ⟨cells, tv, .slice none 0 0, .slice none 0 0, hk2.same _ _ _ _ HL.out, H0.out, H1.out, H2.out, R_keepsC HT.out hk2, Boxed.keepsC HPP.out hk2, by simpa using Kd.R_nil _ _ _ _ _, ne_nil _, Boxed.keepsC BX7.out (KeepsC.of_below HB2.out), .inl ⟨rfl, rfl⟩⟩, BX8.out, (below_then HB1.out HB1.out.size HB2.out).mono hB0⟩
  have hgp2 := HPP.out.lt
  have hb7l := BX7.out.lt
  have h77 : gp ≠ b7 ∧ gp ≠ b8 ∧ b7 ≠ b8 := ⟨by omega, by have := HB1.out.size; omega, by omega⟩
  have HST := Aside0.mk hst
  clear hst hk2 hs1
  go_loopw [9] (fun i wr => ∃ j : Nat, i = .int .i64 (j : Int) ∧ j ≤ n ∧ Aside0 (RunSt g gl gp b7 b8 As n cs cl B0 z W j wr))
    (fun i _ => n - (intOf i).toNat)
  case atStart => exact ⟨0, rfl, Nat.zero_le _, HST⟩
  case round =>
    clear HST
    obtain ⟨j, rfl, hj, HS⟩ := hrel
    by_cases hlt : j < n
    · have p5 := blk_cell HS.out.1 5
      go_wp2
      go_loopw [35] (fun i wr => ∃ k : Nat, i = .int .i64 (k : Int) ∧ k ≤ 1 ∧ Aside0 (RunSt g gl gp b7 b8 As n cs cl B0 z W (j + k) wr))
        (fun i _ => 1 - (intOf i).toNat)
      case atStart => exact ⟨0, rfl, by omega, HS⟩
      case round =>
        clear p5 HS
        rename World => wo
        obtain ⟨k, rfl, hk, HS⟩ := hrel
        by_cases hk0 : k = 0
        · subst hk0
          rw [Nat.add_zero] at HS
          obtain ⟨hP, ⟨cells', tv', pv, bv, hl, c0, c1, c2, hRt, hbp, hRp, hne, hb7', hbv⟩, hb8', hbl⟩ := HS.out
          obtain ⟨At, ct, rfl⟩ := Kd.R_slice hRt
          have HZL : Aside0 (z.length = 256) := ⟨by rw [HZ.out]; simp⟩
          have q5 := blk_cell hP 5
          have q51 := blk_cell (blk_alloc hP (.cells #[.slice At z.length ct, .int .u8 0, .int .u8 0] 49)) 5
          have l0 := (blk_cell hl 0).trans c0
          have l1 := (blk_cell hl 1).trans c1
          have l2 := (blk_cell hl 2).trans c2
          have m7 := (hb7'.alloc (.cells #[.slice At z.length ct, .int .u8 0, .int .u8 0] 49)).cell
          have m8 := (hb8'.alloc (.cells #[.slice At z.length ct, .int .u8 0, .int .u8 0] 49)).cell
          by_cases hj0 : j = 0
          · subst hj0
            have hbv0 : bv = .slice none 0 0 := by
              rcases hbv with h | h
              · exact h.2
              · exact absurd h.1 (Nat.lt_irrefl _)
            subst hbv0
            have hmk := fun W => run_make (P := Tryz.prog) W 31 3 i0 (.int .i64 0) Tryz.underlying31 hi hz0 .i64 .i64 256 256 (by omega) (by omega) (by rw [hz2]; omega) (by omega)
            have g7 := ((hb7'.alloc (.cells #[.slice At z.length ct, .int .u8 0, .int .u8 0] 49)).alloc (.cells (madeCells #[.int .i64 0] 256) 3)).frozen
            have g77 := ((hb7'.alloc (.cells #[.slice At z.length ct, .int .u8 0, .int .u8 0] 49)).alloc (.cells (madeCells #[.int .i64 0] 256) 3)).cell
            go_wp2
            have x7 := (hb7'.alloc (.cells #[.slice At z.length ct, .int .u8 0, .int .u8 0] 49)).alloc (.cells (madeCells #[.int .i64 0] 256) 3)
            have VP := Aside0.mk (blk_far (blk_alloc (blk_alloc hP (.cells #[.slice At z.length ct, .int .u8 0, .int .u8 0] 49)) (.cells (madeCells #[.int .i64 0] 256) 3)) (p := ⟨b7, 0, none⟩) (blk_ne hP hb7' (by decide)) (.slice (some ⟨wo.heap.size + 1, 0, none⟩) 256 256))
            have VL := Aside0.mk (blk_far (blk_alloc (blk_alloc hl (.cells #[.slice At z.length ct, .int .u8 0, .int .u8 0] 49)) (.cells (madeCells #[.int .i64 0] 256) 3)) (p := ⟨b7, 0, none⟩) (blk_ne hl hb7' (by decide)) (.slice (some ⟨wo.heap.size + 1, 0, none⟩) 256 256))
            have VRt := Aside0.mk (Kd.R_set (Kd.R_alloc (Kd.R_alloc hRt (.cells #[.slice At z.length ct, .int .u8 0, .int .u8 0] 49)) (.cells (madeCells #[.int .i64 0] 256) 3)) x7 (by decide) 0 (.slice (some ⟨wo.heap.size + 1, 0, none⟩) 256 256))
            have VBp := Aside0.mk ((hbp.alloc (.cells #[.slice At z.length ct, .int .u8 0, .int .u8 0] 49)).alloc (.cells (madeCells #[.int .i64 0] 256) 3) |> fun h => h.other (B' := b7) h77.1 (.slice (some ⟨wo.heap.size + 1, 0, none⟩) 256 256))
            have VRp := Aside0.mk (Kd.R_set (Kd.R_alloc (Kd.R_alloc hRp (.cells #[.slice At z.length ct, .int .u8 0, .int .u8 0] 49)) (.cells (madeCells #[.int .i64 0] 256) 3)) x7 (by decide) 0 (.slice (some ⟨wo.heap.size + 1, 0, none⟩) 256 256))
            have VNe := Aside0.mk hne
            have V7 := Aside0.mk (x7.set (.slice (some ⟨wo.heap.size + 1, 0, none⟩) 256 256))
            have hmd : Kd.R (Kd.int .i64) 3 ((wo.alloc (.cells #[.slice At z.length ct, .int .u8 0, .int .u8 0] 49)).alloc (.cells (madeCells #[.int .i64 0] 256) 3)) 0 (fun _ => True) (.slice (some ⟨wo.heap.size + 1, 0, none⟩) 256 256) z := by
              have h := R_made (wo.alloc (.cells #[.slice At z.length ct, .int .u8 0, .int .u8 0] 49)) 0 3 .i64 256 (Nat.zero_le _) (by omega)
              rw [World.size_alloc, ← HZ.out] at h
              exact h
            have VRb := Aside0.mk (Kd.R_set hmd x7 (by decide) 0 (.slice (some ⟨wo.heap.size + 1, 0, none⟩) 256 256))
            have VNb : Aside0 (NeRow pv (.slice (some ⟨wo.heap.size + 1, 0, none⟩) 256 256)) := ⟨fun i hi hi2 => by have h1 := (Kd.R_bound hRp).1 i hi; have h2 := h1.2.2.1; simp [Value.ownBlock] at hi2; omega⟩
            have V8 := Aside0.mk ((hb8'.alloc (.cells #[.slice At z.length ct, .int .u8 0, .int .u8 0] 49)).alloc (.cells (madeCells #[.int .i64 0] 256) 3) |> fun h => h.other (B' := b7) (Ne.symm h77.2.2) (.slice (some ⟨wo.heap.size + 1, 0, none⟩) 256 256))
            have VB := Aside0.mk (((hbl.alloc (Nat.le_trans hB0 (by have := hbl.size; omega)) (.cells #[.slice At z.length ct, .int .u8 0, .int .u8 0] 49)).alloc (by simp; have := hbl.size; omega) (.cells (madeCells #[.int .i64 0] 256) 3)).setCell (p := ⟨b7, 0, none⟩) (by show B0 ≤ b7; omega) (.slice (some ⟨wo.heap.size + 1, 0, none⟩) 256 256))
            have VT := Aside0.mk (blk_far (blk_alloc (blk_new wo (.cells #[.slice At z.length ct, .int .u8 0, .int .u8 0] 49)) (.cells (madeCells #[.int .i64 0] 256) 3)) (p := ⟨b7, 0, none⟩) (by show wo.heap.size ≠ b7; have := hb7'.lt; omega) (.slice (some ⟨wo.heap.size + 1, 0, none⟩) 256 256))
            have HBL : Aside0 (256 = z.length) := ⟨HZL.out.symm⟩
            have HLQ : Aside0 (lose_Lines.f z [] 1 (n : Int) = some (z, 0)) := ⟨by have := HLO.out 0 hlt; simpa using this⟩
            clear hmk g7 g77 x7 hmd hP hl hRt hbp hRp hne hb7' hbv hb8' hbl q5 q51 l0 l1 l2 m7 m8
            generalize (((wo.alloc (Obj.cells #[.slice At z.length ct, .int .u8 0, .int .u8 0] 49)).alloc (Obj.cells (madeCells #[.int .i64 0] 256) 3)).setCell ⟨b7, 0, none⟩ (.slice (some ⟨wo.heap.size + 1, 0, none⟩) 256 256)) = V at VP VL VRt VBp VRp V7 VRb V8 VB VT ⊢
            have hvs := HBL.out
            have hCb : Kd.C (Kd.int .i64) V (some ⟨wo.heap.size + 1, 0, none⟩) z.length z := (by have h := (Kd.R_reads' VRb.out).2.2; exact h)
            have hcl := lose_Lines.calls (some ⟨wo.heap.size + 1, 0, none⟩) 256 z none 0 [] 1 (n : Int) z 0 V.drew (Kd.C_drewN hCb 1) (by have := (Kd.R_reads' VRb.out).2.1; rw [← hvs]; exact this) ⟨rfl, by simp, fun h => absurd h (by simp)⟩ (by simp) HLQ.out
            rw [← hvs] at hcl
            clear hvs hCb
            have hsq := fun W => lose_Seq.calls K 0 0 0 W HSQ.out
            have r7 := V7.out.cell
            have r8 := V8.out.cell
            have wn : IntKind.i64.wrap (n : Int) = (n : Int) := wraps_i64 _ (by omega) (by omega)
            go_region_held3 (fun w' => w'.cell? ⟨b7, 0, none⟩ = some (.slice (some ⟨wo.heap.size + 1, 0, none⟩) 256 256) ∧ w'.cell? ⟨b8, 0, none⟩ = some (.slice none 0 0)) (go_keep) ((go_at_call 79; refine hcl.mono ?_; rintro e w3 ⟨vx, rfl, ho, hb⟩; obtain ⟨Ax, cx, rfl⟩ := Kd.R_slice ho; have HX := Aside0.mk ho; have hb : Below V.heap.size V w3 := (below_drew (Below.refl _ _)).trans hb; have HB3 := Aside0.mk (below_then VB.out (by have := VB.out.size; omega) hb); have K3 := Aside0.mk (KeepsC.of_below hb); have s7 := (Boxed.keepsC V7.out K3.out).cell; have s8 := (Boxed.keepsC V8.out K3.out).cell; have t1 := blk_cell (K3.out.same _ _ _ _ VT.out) 1; clear ho hb))
            clear wn s7 s8 hcl r7 r8
            go_wp2_with (first
              | (go_at_call 80; go_must (refine (hsq _).mono ?_; rintro e w4 ⟨rfl, ⟨nd, rfl⟩⟩); have tt := K3.out.same _ _ _ _ VT.out; have u0 := blk_cell (blk_drewN tt nd) 0; have u1 := blk_cell (blk_drewN tt nd) 1; have u2 := blk_cell (blk_drewN tt nd) 2; clear tt)
              | (go_at_call 16; go_must (refine (lap_Next.calls K At ct z 0 0 0 0 Ax cx z z 0 0 z 0 (w3.drewN nd) (Kd.R_reads' (Kd.R_drewN (R_keepsC VRt.out K3.out) nd)).2.2 (Kd.R_reads' VRt.out).2.1 (Kd.R_reads' (Kd.R_drewN HX.out nd)).2.2 (Kd.R_reads' HX.out).2.1 HNX.out).mono ?_; rintro e w5 ⟨v0, v3, rfl, ho0, ho3, hb⟩); obtain ⟨A8, c8, rfl⟩ := Kd.R_slice ho0; obtain ⟨A9, c9, rfl⟩ := Kd.R_slice ho3; have HO0 := Aside0.mk ho0; have HO3 := Aside0.mk ho3; have hb' : Below w3.heap.size w3 w5 := (pw_below_drewN (Below.refl _ _) nd).trans hb; have K5 := Aside0.mk (K3.out.trans (KeepsC.of_below hb')); have HB5 := Aside0.mk (below_then HB3.out (by have := HB3.out.size; omega) hb'); clear ho0 ho3 hb hb'))
            have PU := Aside0.mk (blk_drew (blk_alloc (K5.out.same _ _ _ _ VP.out) (.cells #[.slice A8 z.length c8, .int .u8 0, .int .u8 0] 49)))
            have LU := Aside0.mk (blk_drew (blk_alloc (K5.out.same _ _ _ _ VL.out) (.cells #[.slice A8 z.length c8, .int .u8 0, .int .u8 0] 49)))
            have a5 := blk_cell (blk_alloc (K5.out.same _ _ _ _ VP.out) (.cells #[.slice A8 z.length c8, .int .u8 0, .int .u8 0] 49)) 5
            have b0 := (blk_cell (blk_alloc (K5.out.same _ _ _ _ VL.out) (.cells #[.slice A8 z.length c8, .int .u8 0, .int .u8 0] 49)) 0).trans c0
            have b1 := (blk_cell (blk_alloc (K5.out.same _ _ _ _ VL.out) (.cells #[.slice A8 z.length c8, .int .u8 0, .int .u8 0] 49)) 1).trans c1
            have b2 := (blk_cell (blk_alloc (K5.out.same _ _ _ _ VL.out) (.cells #[.slice A8 z.length c8, .int .u8 0, .int .u8 0] 49)) 2).trans c2
            have d0 := blk_frozen (blk_alloc (K5.out.same _ _ _ _ VL.out) (.cells #[.slice A8 z.length c8, .int .u8 0, .int .u8 0] 49)) 0
            have d1 := blk_frozen (blk_alloc (K5.out.same _ _ _ _ VL.out) (.cells #[.slice A8 z.length c8, .int .u8 0, .int .u8 0] 49)) 1
            have d2 := blk_frozen (blk_alloc (K5.out.same _ _ _ _ VL.out) (.cells #[.slice A8 z.length c8, .int .u8 0, .int .u8 0] 49)) 2
            have ngl : g ≠ gl := blk_ne PU.out LU.out (by decide)
            have hU : ∀ u0 u1 u2 : Value, True := fun _ _ _ => trivial
            have P6 := Aside0.mk (far3 PU.out ngl (.slice A8 z.length c8) (.int .u8 0) (.int .u8 0))
            have L6 := Aside0.mk (set3 LU.out (.slice A8 z.length c8) (.int .u8 0) (.int .u8 0))
            have bpU := Aside0.mk (blk_drew (blk_alloc (Boxed.keepsC VBp.out K5.out) (.cells #[.slice A8 z.length c8, .int .u8 0, .int .u8 0] 49)))
            have ngp : gp ≠ gl := blk_ne bpU.out LU.out (by decide)
            have B6 := Aside0.mk (far3 bpU.out ngp (.slice A8 z.length c8) (.int .u8 0) (.int .u8 0))
            have RP6 := Aside0.mk (R_set3 (Kd.R_drew (Kd.R_alloc (R_keepsC VRp.out K5.out) (.cells #[.slice A8 z.length c8, .int .u8 0, .int .u8 0] 49))) LU.out (by decide) (.slice A8 z.length c8) (.int .u8 0) (.int .u8 0))
            have RZ6 := Aside0.mk (R_set3 (Kd.R_drew (Kd.R_alloc HO3.out (.cells #[.slice A8 z.length c8, .int .u8 0, .int .u8 0] 49))) LU.out (by decide) (.slice A8 z.length c8) (.int .u8 0) (.int .u8 0))
            have RT6 := Aside0.mk (R_set3 (Kd.R_drew (Kd.R_alloc HO0.out (.cells #[.slice A8 z.length c8, .int .u8 0, .int .u8 0] 49))) LU.out (by decide) (.slice A8 z.length c8) (.int .u8 0) (.int .u8 0))
            have RB6 := Aside0.mk (R_set3 (Kd.R_drew (Kd.R_alloc (R_keepsC VRb.out K5.out) (.cells #[.slice A8 z.length c8, .int .u8 0, .int .u8 0] 49))) LU.out (by decide) (.slice A8 z.length c8) (.int .u8 0) (.int .u8 0))
            have b7U := blk_drew (blk_alloc (Boxed.keepsC V7.out K5.out) (.cells #[.slice A8 z.length c8, .int .u8 0, .int .u8 0] 49))
            have b8U := blk_drew (blk_alloc (Boxed.keepsC V8.out K5.out) (.cells #[.slice A8 z.length c8, .int .u8 0, .int .u8 0] 49))
            have B76 := Aside0.mk (far3 b7U (blk_ne b7U LU.out (by decide)) (.slice A8 z.length c8) (.int .u8 0) (.int .u8 0))
            have B86 := Aside0.mk (far3 b8U (blk_ne b8U LU.out (by decide)) (.slice A8 z.length c8) (.int .u8 0) (.int .u8 0))
            clear b7U b8U
            go_region
            all_goals
              go_wp2_with (go_at_call 81; go_must (refine (put_calls g gp B0 1 c9 _ _ _ _ _ _ pv (List.replicate (256 * 0) 0) z A9 _ (by have := HB5.out.size; simp; omega) (by have := HZL.out; simp; omega) P6.out B6.out RP6.out (Kd.R_reads' RZ6.out).2.2).mono ?_; rintro e w9 ⟨⟨u9, rfl⟩, v9, w8, ho9, hg9, hat9, rfl⟩); have HO9 := Aside0.mk ho9; have HG9 := Aside0.mk hg9; have HT9 := Aside0.mk hat9; clear ho9 hg9 hat9)
              refine ⟨?_, by simp [intOf]⟩
              (repeat apply Exists.intro)
              refine ⟨?rel, rfl⟩
              case rel =>
                refine ⟨1, by first | rfl | simp, by omega, ⟨?_⟩⟩
                have nep := Kd.R_ne RP6.out P6.out (by decide)
                have P8 := blk_grown P6.out HG9.out nep
                have L8 := blk_grown L6.out HG9.out (Kd.R_ne RP6.out L6.out (by decide))
                have B8' := Boxed.beside B6.out (by decide) RP6.out HG9.out
                have B78 := Boxed.beside B76.out (by decide) RP6.out HG9.out
                have B88 := Boxed.beside B86.out (by decide) RP6.out HG9.out
                have hcc := cells3 (u0 := .slice A8 z.length c8) (u1 := .int .u8 0) (u2 := .int .u8 0) c2
                have hVs := HB3.out.size
                have h3s : V.heap.size ≤ w3.heap.size := K3.out.size
                have h5s : V.heap.size ≤ w5.heap.size := K5.out.size
                have pvlt : ∀ i, pv.ownBlock = some i → i < V.heap.size := fun i hi => ((Kd.R_bound VRp.out).1 i hi).2.2.1
                have tge : ∀ i, (Value.slice A8 z.length c8).ownBlock = some i → w3.heap.size ≤ i ∧ i < w5.heap.size := fun i hi => by have h := (Kd.R_bound HO0.out).1 i hi; exact ⟨h.2.1, h.2.2.1⟩
                have blt : ∀ i, ((.slice (some ⟨wo.heap.size + 1, 0, none⟩) 256 256) : Value).ownBlock = some i → i < V.heap.size := fun i hi => ((Kd.R_bound VRb.out).1 i hi).2.2.1
                have newge : ∀ i, v9.ownBlock = some i → pv.ownBlock = some i ∨ w5.heap.size < i := fun i hi => by
                  rcases HT9.out with h | ⟨b, hb, hge⟩
                  · exact .inl (h ▸ hi)
                  · rw [hb] at hi
                    injection hi with hi
                    simp at hge
                    exact .inr (by omega)
                refine ⟨blk_far P8 (p := ⟨gp, 0, none⟩) (blk_ne P8 B8' (by decide)) v9, ⟨_, .slice A8 z.length c8, v9, (.slice (some ⟨wo.heap.size + 1, 0, none⟩) 256 256), blk_far L8 (p := ⟨gp, 0, none⟩) (blk_ne L8 B8' (by decide)) v9, hcc.1, hcc.2.1, hcc.2.2, ?_, B8'.set v9, ?_, ?_, ?_, .inr ⟨Nat.succ_pos _, ?_, ?_⟩⟩, ?_, ?_⟩
                · exact Kd.R_lower (Kd.R_set (Kd.R_mono (Kd.R_grown (Kd.R_bound RT6.out) HG9.out (fun i hi e => by have h1 := pvlt i e.symm; have h2 := hi.2.1; have h3 : w3.heap.size ≤ i := h2; omega)) (fun _ h => h.1)) B8' (by decide) 0 v9) (Nat.zero_le _)
                · have e1 : List.replicate (256 * 0) (0 : Int) ++ z = List.replicate (256 * (0 + 1)) 0 := by rw [HZ.out, List.replicate_append_replicate, Nat.mul_add]
                  have h := Kd.R_set HO9.out B8' (by decide) 0 v9
                  rw [e1] at h
                  exact h
                · intro i hi hi2
                  have h1 := tge i hi2
                  rcases newge i hi with h | h
                  · have := pvlt i h; omega
                  · omega
                · exact B78.other (B' := gp) (Ne.symm h77.1) v9
                · exact Kd.R_set (Kd.R_mono (Kd.R_grown (Kd.R_tight rfl RB6.out) HG9.out (fun i hi e => VNb.out i e.symm hi.symm)) (fun _ _ => trivial)) B8' (by decide) 0 v9
                · intro i hi hi2
                  have h1 := blt i hi2
                  rcases newge i hi with h | h
                  · exact VNb.out i h hi2
                  · omega
                · exact B88.other (B' := gp) (Ne.symm h77.2.1) v9
                · exact ((((((HB5.out.alloc (by have := HB5.out.size; omega) (.cells #[.slice A8 z.length c8, .int .u8 0, .int .u8 0] 49)).drew.setCell (p := ⟨gl, 0, none⟩) hgl (.slice A8 z.length c8)).setCell (p := ⟨gl, 1, none⟩) hgl (.int .u8 0)).setCell (p := ⟨gl, 2, none⟩) hgl (.int .u8 0)).grown HG9.out (by have := HB5.out.size; simp; omega) (fun i hi => Kd.R_base RP6.out i hi)).setCell (p := ⟨gp, 0, none⟩) hgp v9)

          · have hbv2 : Kd.R (Kd.int .i64) 3 wo 0 (fun _ => True) bv z ∧ NeRow pv bv := by
              rcases hbv with h | h
              · exact absurd h.1 hj0
              · exact h.2
            obtain ⟨hRb, hnb⟩ := hbv2
            obtain ⟨Ab, cb, rfl⟩ := Kd.R_slice hRb
            obtain ⟨bl, hbl0⟩ : ∃ bl, bl = z.length := ⟨_, rfl⟩
            have HBL := Aside0.mk hbl0
            rw [← hbl0] at hRb hnb hb7'
            clear m7 hbl0 hbv
            have m7 := (hb7'.alloc (.cells #[.slice At z.length ct, .int .u8 0, .int .u8 0] 49)).cell
            have hblp : 0 < bl := by have := HBL.out; have := HZL.out; omega
            have hblz : ((bl : Int) == 0) = false := by simp; omega
            have hblz2 : (bl == 0) = false := by simp; omega
            go_wp2
            have VP := Aside0.mk (blk_alloc hP (.cells #[.slice At z.length ct, .int .u8 0, .int .u8 0] 49))
            have VL := Aside0.mk (blk_alloc hl (.cells #[.slice At z.length ct, .int .u8 0, .int .u8 0] 49))
            have VRt := Aside0.mk (Kd.R_alloc hRt (.cells #[.slice At z.length ct, .int .u8 0, .int .u8 0] 49))
            have VBp := Aside0.mk (hbp.alloc (.cells #[.slice At z.length ct, .int .u8 0, .int .u8 0] 49))
            have VRp := Aside0.mk (Kd.R_alloc hRp (.cells #[.slice At z.length ct, .int .u8 0, .int .u8 0] 49))
            have V7 := Aside0.mk (hb7'.alloc (.cells #[.slice At z.length ct, .int .u8 0, .int .u8 0] 49))
            have VRb := Aside0.mk (Kd.R_alloc hRb (.cells #[.slice At z.length ct, .int .u8 0, .int .u8 0] 49))
            have VNb := Aside0.mk hnb
            have V8 := Aside0.mk (hb8'.alloc (.cells #[.slice At z.length ct, .int .u8 0, .int .u8 0] 49))
            have VB := Aside0.mk (hbl.alloc (Nat.le_trans hB0 (by have := hbl.size; omega)) (.cells #[.slice At z.length ct, .int .u8 0, .int .u8 0] 49))
            have VT := Aside0.mk (blk_new wo (.cells #[.slice At z.length ct, .int .u8 0, .int .u8 0] 49))
            have HLQ : Aside0 (lose_Lines.f z [] ((j : Int) + 1) (n : Int) = some (z, 0)) := ⟨HLO.out j hlt⟩
            clear hP hl hRt hbp hRp hne hb7' hb8' hbl q5 q51 l0 l1 l2 m7 m8 hRb hnb
            generalize wo.alloc (Obj.cells #[.slice At z.length ct, .int .u8 0, .int .u8 0] 49) = V at VP VL VRt VBp VRp V7 VRb V8 VB VT ⊢
            have hvs := HBL.out
            have hCb : Kd.C (Kd.int .i64) V Ab z.length z := (by have h := (Kd.R_reads' VRb.out).2.2; exact h)
            have hcl := lose_Lines.calls Ab cb z none 0 [] ((j : Int) + 1) (n : Int) z 0 V.drew (Kd.C_drewN hCb 1) (by have := (Kd.R_reads' VRb.out).2.1; rw [← hvs]; exact this) ⟨rfl, by simp, fun h => absurd h (by simp)⟩ (by simp) HLQ.out
            rw [← hvs] at hcl
            clear hvs hCb
            have hsq := fun W => lose_Seq.calls K 0 0 0 W HSQ.out
            have r7 := V7.out.cell
            have r8 := V8.out.cell
            have wn : IntKind.i64.wrap (n : Int) = (n : Int) := wraps_i64 _ (by omega) (by omega)
            have wj : IntKind.i64.wrap (j : Int) = (j : Int) := wraps_i64 _ (by omega) (by omega)
            have wj1 : IntKind.i64.wrap ((j : Int) + 1) = (j : Int) + 1 := wraps_i64 _ (by omega) (by omega)
            go_region_held3 (fun w' => w'.cell? ⟨b7, 0, none⟩ = some (.slice Ab bl cb) ∧ w'.cell? ⟨b8, 0, none⟩ = some (.slice none 0 0)) (go_keep) ((go_at_call 79; refine hcl.mono ?_; rintro e w3 ⟨vx, rfl, ho, hb⟩; obtain ⟨Ax, cx, rfl⟩ := Kd.R_slice ho; have HX := Aside0.mk ho; have hb : Below V.heap.size V w3 := (below_drew (Below.refl _ _)).trans hb; have HB3 := Aside0.mk (below_then VB.out (by have := VB.out.size; omega) hb); have K3 := Aside0.mk (KeepsC.of_below hb); have s7 := (Boxed.keepsC V7.out K3.out).cell; have s8 := (Boxed.keepsC V8.out K3.out).cell; have t1 := blk_cell (K3.out.same _ _ _ _ VT.out) 1; clear ho hb))
            clear wn wj wj1 s7 s8 hcl r7 r8
            go_wp2_with (first
              | (go_at_call 80; go_must (refine (hsq _).mono ?_; rintro e w4 ⟨rfl, ⟨nd, rfl⟩⟩); have tt := K3.out.same _ _ _ _ VT.out; have u0 := blk_cell (blk_drewN tt nd) 0; have u1 := blk_cell (blk_drewN tt nd) 1; have u2 := blk_cell (blk_drewN tt nd) 2; clear tt)
              | (go_at_call 16; go_must (refine (lap_Next.calls K At ct z 0 0 0 0 Ax cx z z 0 0 z 0 (w3.drewN nd) (Kd.R_reads' (Kd.R_drewN (R_keepsC VRt.out K3.out) nd)).2.2 (Kd.R_reads' VRt.out).2.1 (Kd.R_reads' (Kd.R_drewN HX.out nd)).2.2 (Kd.R_reads' HX.out).2.1 HNX.out).mono ?_; rintro e w5 ⟨v0, v3, rfl, ho0, ho3, hb⟩); obtain ⟨A8, c8, rfl⟩ := Kd.R_slice ho0; obtain ⟨A9, c9, rfl⟩ := Kd.R_slice ho3; have HO0 := Aside0.mk ho0; have HO3 := Aside0.mk ho3; have hb' : Below w3.heap.size w3 w5 := (pw_below_drewN (Below.refl _ _) nd).trans hb; have K5 := Aside0.mk (K3.out.trans (KeepsC.of_below hb')); have HB5 := Aside0.mk (below_then HB3.out (by have := HB3.out.size; omega) hb'); clear ho0 ho3 hb hb'))
            have PU := Aside0.mk (blk_drew (blk_alloc (K5.out.same _ _ _ _ VP.out) (.cells #[.slice A8 z.length c8, .int .u8 0, .int .u8 0] 49)))
            have LU := Aside0.mk (blk_drew (blk_alloc (K5.out.same _ _ _ _ VL.out) (.cells #[.slice A8 z.length c8, .int .u8 0, .int .u8 0] 49)))
            have a5 := blk_cell (blk_alloc (K5.out.same _ _ _ _ VP.out) (.cells #[.slice A8 z.length c8, .int .u8 0, .int .u8 0] 49)) 5
            have b0 := (blk_cell (blk_alloc (K5.out.same _ _ _ _ VL.out) (.cells #[.slice A8 z.length c8, .int .u8 0, .int .u8 0] 49)) 0).trans c0
            have b1 := (blk_cell (blk_alloc (K5.out.same _ _ _ _ VL.out) (.cells #[.slice A8 z.length c8, .int .u8 0, .int .u8 0] 49)) 1).trans c1
            have b2 := (blk_cell (blk_alloc (K5.out.same _ _ _ _ VL.out) (.cells #[.slice A8 z.length c8, .int .u8 0, .int .u8 0] 49)) 2).trans c2
            have d0 := blk_frozen (blk_alloc (K5.out.same _ _ _ _ VL.out) (.cells #[.slice A8 z.length c8, .int .u8 0, .int .u8 0] 49)) 0
            have d1 := blk_frozen (blk_alloc (K5.out.same _ _ _ _ VL.out) (.cells #[.slice A8 z.length c8, .int .u8 0, .int .u8 0] 49)) 1
            have d2 := blk_frozen (blk_alloc (K5.out.same _ _ _ _ VL.out) (.cells #[.slice A8 z.length c8, .int .u8 0, .int .u8 0] 49)) 2
            have ngl : g ≠ gl := blk_ne PU.out LU.out (by decide)
            have hU : ∀ u0 u1 u2 : Value, True := fun _ _ _ => trivial
            have P6 := Aside0.mk (far3 PU.out ngl (.slice A8 z.length c8) (.int .u8 0) (.int .u8 0))
            have L6 := Aside0.mk (set3 LU.out (.slice A8 z.length c8) (.int .u8 0) (.int .u8 0))
            have bpU := Aside0.mk (blk_drew (blk_alloc (Boxed.keepsC VBp.out K5.out) (.cells #[.slice A8 z.length c8, .int .u8 0, .int .u8 0] 49)))
            have ngp : gp ≠ gl := blk_ne bpU.out LU.out (by decide)
            have B6 := Aside0.mk (far3 bpU.out ngp (.slice A8 z.length c8) (.int .u8 0) (.int .u8 0))
            have RP6 := Aside0.mk (R_set3 (Kd.R_drew (Kd.R_alloc (R_keepsC VRp.out K5.out) (.cells #[.slice A8 z.length c8, .int .u8 0, .int .u8 0] 49))) LU.out (by decide) (.slice A8 z.length c8) (.int .u8 0) (.int .u8 0))
            have RZ6 := Aside0.mk (R_set3 (Kd.R_drew (Kd.R_alloc HO3.out (.cells #[.slice A8 z.length c8, .int .u8 0, .int .u8 0] 49))) LU.out (by decide) (.slice A8 z.length c8) (.int .u8 0) (.int .u8 0))
            have RT6 := Aside0.mk (R_set3 (Kd.R_drew (Kd.R_alloc HO0.out (.cells #[.slice A8 z.length c8, .int .u8 0, .int .u8 0] 49))) LU.out (by decide) (.slice A8 z.length c8) (.int .u8 0) (.int .u8 0))
            have RB6 := Aside0.mk (R_set3 (Kd.R_drew (Kd.R_alloc (R_keepsC VRb.out K5.out) (.cells #[.slice A8 z.length c8, .int .u8 0, .int .u8 0] 49))) LU.out (by decide) (.slice A8 z.length c8) (.int .u8 0) (.int .u8 0))
            have b7U := blk_drew (blk_alloc (Boxed.keepsC V7.out K5.out) (.cells #[.slice A8 z.length c8, .int .u8 0, .int .u8 0] 49))
            have b8U := blk_drew (blk_alloc (Boxed.keepsC V8.out K5.out) (.cells #[.slice A8 z.length c8, .int .u8 0, .int .u8 0] 49))
            have B76 := Aside0.mk (far3 b7U (blk_ne b7U LU.out (by decide)) (.slice A8 z.length c8) (.int .u8 0) (.int .u8 0))
            have B86 := Aside0.mk (far3 b8U (blk_ne b8U LU.out (by decide)) (.slice A8 z.length c8) (.int .u8 0) (.int .u8 0))
            clear b7U b8U
            go_region
            all_goals
              go_wp2_with (go_at_call 81; go_must (refine (put_calls g gp B0 1 c9 _ _ _ _ _ _ pv (List.replicate (256 * j) 0) z A9 _ (by have := HB5.out.size; simp; omega) (by have := HZL.out; simp; omega) P6.out B6.out RP6.out (Kd.R_reads' RZ6.out).2.2).mono ?_; rintro e w9 ⟨⟨u9, rfl⟩, v9, w8, ho9, hg9, hat9, rfl⟩); have HO9 := Aside0.mk ho9; have HG9 := Aside0.mk hg9; have HT9 := Aside0.mk hat9; clear ho9 hg9 hat9)
              refine ⟨⟨1, by simp, by omega, ⟨?_⟩⟩, by simp [intOf]⟩
              have nep := Kd.R_ne RP6.out P6.out (by decide)
              have P8 := blk_grown P6.out HG9.out nep
              have L8 := blk_grown L6.out HG9.out (Kd.R_ne RP6.out L6.out (by decide))
              have B8' := Boxed.beside B6.out (by decide) RP6.out HG9.out
              have B78 := Boxed.beside B76.out (by decide) RP6.out HG9.out
              have B88 := Boxed.beside B86.out (by decide) RP6.out HG9.out
              have hcc := cells3 (u0 := .slice A8 z.length c8) (u1 := .int .u8 0) (u2 := .int .u8 0) c2
              have hVs := HB3.out.size
              have h3s : V.heap.size ≤ w3.heap.size := K3.out.size
              have h5s : V.heap.size ≤ w5.heap.size := K5.out.size
              have pvlt : ∀ i, pv.ownBlock = some i → i < V.heap.size := fun i hi => ((Kd.R_bound VRp.out).1 i hi).2.2.1
              have tge : ∀ i, (Value.slice A8 z.length c8).ownBlock = some i → w3.heap.size ≤ i ∧ i < w5.heap.size := fun i hi => by have h := (Kd.R_bound HO0.out).1 i hi; exact ⟨h.2.1, h.2.2.1⟩
              have blt : ∀ i, ((.slice Ab bl cb) : Value).ownBlock = some i → i < V.heap.size := fun i hi => ((Kd.R_bound VRb.out).1 i hi).2.2.1
              have newge : ∀ i, v9.ownBlock = some i → pv.ownBlock = some i ∨ w5.heap.size < i := fun i hi => by
                rcases HT9.out with h | ⟨b, hb, hge⟩
                · exact .inl (h ▸ hi)
                · rw [hb] at hi
                  injection hi with hi
                  simp at hge
                  exact .inr (by omega)
              refine ⟨blk_far P8 (p := ⟨gp, 0, none⟩) (blk_ne P8 B8' (by decide)) v9, ⟨_, .slice A8 z.length c8, v9, (.slice Ab bl cb), blk_far L8 (p := ⟨gp, 0, none⟩) (blk_ne L8 B8' (by decide)) v9, hcc.1, hcc.2.1, hcc.2.2, ?_, B8'.set v9, ?_, ?_, ?_, .inr ⟨Nat.succ_pos _, ?_, ?_⟩⟩, ?_, ?_⟩
              · exact Kd.R_lower (Kd.R_set (Kd.R_mono (Kd.R_grown (Kd.R_bound RT6.out) HG9.out (fun i hi e => by have h1 := pvlt i e.symm; have h2 := hi.2.1; have h3 : w3.heap.size ≤ i := h2; omega)) (fun _ h => h.1)) B8' (by decide) 0 v9) (Nat.zero_le _)
              · have e1 : List.replicate (256 * j) (0 : Int) ++ z = List.replicate (256 * (j + 1)) 0 := by rw [HZ.out, List.replicate_append_replicate, Nat.mul_add]
                have h := Kd.R_set HO9.out B8' (by decide) 0 v9
                rw [e1] at h
                exact h
              · intro i hi hi2
                have h1 := tge i hi2
                rcases newge i hi with h | h
                · have := pvlt i h; omega
                · omega
              · exact B78.other (B' := gp) (Ne.symm h77.1) v9
              · exact Kd.R_set (Kd.R_mono (Kd.R_grown (Kd.R_tight rfl RB6.out) HG9.out (fun i hi e => VNb.out i e.symm hi.symm)) (fun _ _ => trivial)) B8' (by decide) 0 v9
              · intro i hi hi2
                have h1 := blt i hi2
                rcases newge i hi with h | h
                · exact VNb.out i h hi2
                · omega
              · exact B88.other (B' := gp) (Ne.symm h77.2.1) v9
              · exact ((((((HB5.out.alloc (by have := HB5.out.size; omega) (.cells #[.slice A8 z.length c8, .int .u8 0, .int .u8 0] 49)).drew.setCell (p := ⟨gl, 0, none⟩) hgl (.slice A8 z.length c8)).setCell (p := ⟨gl, 1, none⟩) hgl (.int .u8 0)).setCell (p := ⟨gl, 2, none⟩) hgl (.int .u8 0)).grown HG9.out (by have := HB5.out.size; simp; omega) (fun i hi => Kd.R_base RP6.out i hi)).setCell (p := ⟨gp, 0, none⟩) hgp v9)

        · obtain rfl : k = 1 := by omega
          go_wp2
          exact ⟨⟨j + 1, by simp, by omega, HS⟩, by simp [intOf]; omega⟩
    · obtain rfl : j = n := by omega
      go_wp2
      go_ret
      exact ⟨rfl, b7, b8, HS.out⟩
end Go.Proofs.YtplmmoaljlnbdaaGreat.Hd
end

section
-- Written by a program of this session (wip/hprint.py), out of the translation's own print.
namespace Go.Proofs.YtplmmoaljlnbdaaGreat.Hd
open Go.RowKit Go.Proofs.YtplmmoaljlnbdaaGreatW.PrintWords Go.Proofs.YtplmmoaljlnbdaaGreatW.PrintLast Go.Proofs.YtplmmoaljlnbdaaGreatW.PrintMore Go.Proofs.YtplmmoaljlnbdaaGreat.Hd
attribute [local go_sem] max2_int min2_int max_two min_two max_three min_three max_four min_four   -- for this text's walks alone
set_option linter.unusedVariables false
set_option linter.unusedSimpArgs false

/-! ### lap_New: function 17 -/
def lap_New.f  : Option (List Int × Int × Int) := if 256 ≤ 35184372088832 then (some ((List.replicate 256 0), 0, 0)) else (none)
set_option maxHeartbeats 8000000 in
set_option maxRecDepth 100000 in
theorem lap_New.calls  (r1 : List Int) (r2 : Int) (r3 : Int) (w : World) (h : lap_New.f  = some (r1, r2, r3)) :
    Calls Tryz.prog 17 #[] w fun e w' => ∃ v0_ : Value, e = .returned (.agg #[v0_, .int .u8 r2, .int .u8 r3]) ∧ Kd.R (Kd.int .i64) 3 w' w.heap.size (fun _ => True) v0_ r1 ∧ Below w.heap.size w w' := by
  have hu49 := Tryz.underlying49
  have HB := Aside0.mk (Below.refl w.heap.size w)
  have H : (if 256 ≤ 35184372088832 then (some ((List.replicate 256 0), 0, 0)) else (none)) = some (r1, r2, r3) := h
  clear h
  by_cases c1 : 256 ≤ 35184372088832
  · rw [if_pos c1] at H
    have c1b0 := eq_true c1
    have c1b1 : decide (256 ≤ 35184372088832) = true := decide_eq_true c1
    clear c1
    obtain ⟨y102, hy102⟩ : ∃ y_ : List Int, y_ = (List.replicate 256 0) := ⟨_, rfl⟩
    replace H : (some (y102, 0, 0)) = some (r1, r2, r3) := by first | (rw [hy102]; with_reducible exact H) | (have H2_ := (Option.bind_some _ _).symm.trans H; rw [hy102]; with_reducible exact H2_) | (have H2_ := (Option.bind_some _ _).symm.trans H; with_reducible exact H2_) | with_reducible exact H | (rw [hy102]; exact H) | exact H
    have Ny102 := Aside0.mk hy102
    clear hy102
    simp only [Option.some.injEq, Prod.mk.injEq] at H
    obtain ⟨rfl, rfl, rfl⟩ := H
    go_enter Tryz.func17, Tryz.ntmps17
    go_wp2_with (first | ((with_reducible refine gate_dst (N := 0) rfl ?_); refine box_event ?hg (N := 0) ?hd (cs := #[.slice none 0 0, .int .u8 0, .int .u8 0]) (t := 49) ?hr ?_; (case hd => rfl); (case hg => rfl); (case hr => first | (go_simp; done) | (go_simp; rfl)); intro gb101 hg w2 hbox hb; have n0_ := Aside0.mk (below_step (by repeat (first | (with_reducible first | exact HB.out | apply below_alloc | apply pw_below_drewN | apply below_drew1) | exact HB.out)) hb); have n1_ := Aside0.mk (hbox); have n2_ := Aside0.mk ((by rw [hg]; exact (below_size (by repeat (first | (with_reducible first | exact HB.out | apply below_alloc | apply pw_below_drewN | apply below_drew1) | exact HB.out))) : w.heap.size ≤ gb101)); have n3_ := Aside0.mk ((by rw [hg]; exact (below_size (by repeat (first | (with_reducible first | exact HB.out | apply below_alloc | apply pw_below_drewN | apply below_drew1) | exact HB.out))) : w.heap.size ≤ gb101)); clear HB; have HB := n0_; have BK101 := n1_; have GW101 := n2_; have GE101 := n3_; clear n0_ n1_ n2_ n3_; clear hb hbox hg) | ((with_reducible refine gate_dst (N := 1) rfl ?_); refine Kd.R_make (Kd.int .i64) _ 3 rfl (N := 1) rfl 31 _ _ rfl 256 rfl rfl Tryz.underlying31 (.int .i64 0) 8 info3 rfl (by decide) (by omega) 0 (ok := fun _ => True) (okp := fun _ => True) rfl (fun _ hk => hk) trivial (by omega) (by omega) (Below.refl _ _) (Nat.le_refl _) ?_; intro v103 w3 ho4 hb hg_ hnew_; clear hg_ hnew_; (first | rw [← Ny102.out] at ho4 | (simp only [Int.reduceToNat] at ho4; rw [← Ny102.out] at ho4)); have n0_ := Aside0.mk (Kd.R_lower ho4 (below_size (by repeat (first | (with_reducible first | exact HB.out | apply below_alloc | apply pw_below_drewN | apply below_drew1 | refine below_set ?_ GE101.out) | exact HB.out)))); have n1_ := Aside0.mk (blk_below (g := gb101) (o := .cells #[.slice none 0 0, .int .u8 0, .int .u8 0] 49 (0, 0)) (by (with_reducible repeat (first | refine blk_drewN ?_ _ | refine blk_drew ?_ | refine blk_alloc ?_ _)); exact BK101.out) hb); have n2_ := Aside0.mk (below_step (by repeat (first | (with_reducible first | exact HB.out | apply below_alloc | apply pw_below_drewN | apply below_drew1 | refine below_set ?_ GE101.out) | exact HB.out)) hb); clear BK101; clear HB; have HO104 := n0_; have BK101 := n1_; have HB := n2_; clear n0_ n1_ n2_; clear hb ho4; obtain ⟨Ao5, co5, eo5⟩ := Kd.R_slice HO104.out; subst eo5; have hcz6_0 : w3.cell? ⟨gb101, 0, none⟩ = some (.slice none 0 0) := (blk_cell BK101.out 0).trans rfl; have hcz6_1 : w3.cell? ⟨gb101, 1, none⟩ = some (.int .u8 0) := (blk_cell BK101.out 1).trans rfl; have hcz6_2 : w3.cell? ⟨gb101, 2, none⟩ = some (.int .u8 0) := (blk_cell BK101.out 2).trans rfl; have hfz6_0 := blk_frozen BK101.out 0; have hfz6_1 := blk_frozen BK101.out 1; have hfz6_2 := blk_frozen BK101.out 2))
    refine bodyPost_ret (results_cell_row rfl _ _ gb101 49 #[.slice Ao5 y102.length co5, .int .u8 0, .int .u8 0] (0, 0) _ rfl (by (with_reducible repeat (first | refine blk_drewN ?_ _ | refine blk_drew ?_ | refine blk_alloc ?_ _)); refine blk_put (cs := #[.slice Ao5 y102.length co5, .int .u8 0, .int .u8 0]) ?_ 2 _ rfl; (with_reducible repeat (first | refine blk_drewN ?_ _ | refine blk_drew ?_ | refine blk_alloc ?_ _)); refine blk_put (cs := #[.slice Ao5 y102.length co5, .int .u8 0, .int .u8 0]) ?_ 1 _ rfl; (with_reducible repeat (first | refine blk_drewN ?_ _ | refine blk_drew ?_ | refine blk_alloc ?_ _)); refine blk_put (cs := #[.slice none 0 0, .int .u8 0, .int .u8 0]) ?_ 0 _ rfl; (with_reducible repeat (first | refine blk_drewN ?_ _ | refine blk_drew ?_ | refine blk_alloc ?_ _)); exact BK101.out) Tryz.underlying49 rfl (by kernel_rfl)) rfl ?_
    exact ⟨_, by first | rfl | (simp [errW_none, errW_some] <;> rfl) | (simp [*, errW_none, errW_some] <;> rfl), by (with_reducible repeat (first | apply Kd.R_alloc | apply Kd.R_drewN | apply Kd.R_drew)); exact Kd.R_mono (Kd.R_far (p := ⟨gb101, 2, none⟩) (Kd.R_far (p := ⟨gb101, 1, none⟩) (Kd.R_far (p := ⟨gb101, 0, none⟩) (Kd.R_types HO104.out BK101.out (by decide)) (fun _ hk => hk.2) (.slice Ao5 y102.length co5)) (fun _ hk => hk.2) (.int .u8 0)) (fun _ hk => hk.2) (.int .u8 0)) (fun _ hk => trivial), by repeat (first | (with_reducible first | exact HB.out | apply below_alloc | apply pw_below_drewN | apply below_drew1 | refine below_set ?_ GE101.out) | exact HB.out)⟩
  · rw [if_neg c1] at H
    exact absurd H (by simp)

end Go.Proofs.YtplmmoaljlnbdaaGreat.Hd
end

section
-- Written by a program of this session (wip/hprint.py), out of the translation's own print.
namespace Go.Proofs.YtplmmoaljlnbdaaGreat.Hd
open Go.RowKit Go.Proofs.YtplmmoaljlnbdaaGreatW.PrintWords Go.Proofs.YtplmmoaljlnbdaaGreatW.PrintLast Go.Proofs.YtplmmoaljlnbdaaGreatW.PrintMore Go.Proofs.YtplmmoaljlnbdaaGreat.Hd
attribute [local go_sem] max2_int min2_int max_two min_two max_three min_three max_four min_four   -- for this text's walks alone
set_option linter.unusedVariables false
set_option linter.unusedSimpArgs false

/-! ### synth_New: function 21 -/
mutual
def synth_New.j0 : Nat → Int → List (S49) → Bool → Option ((List (S49)) × Int)
  | 0, _, _, _ => none
  | k + 1, x0, x2, x9 => if x9 = true then (some (([] : List (S49)), 2)) else (synth_New.l0 k x2 x0 0)
def synth_New.l0 : Nat → List (S49) → Int → Int → Option ((List (S49)) × Int)
  | 0, _, _, _ => none
  | k + 1, x2, x10, x11 => if x11 < x10 then ((lap_New.f).bind fun bt105 => (if x2.length < 4398046511104 then (synth_New.l0 k (x2 ++ [(⟨bt105.1, bt105.2.1, bt105.2.2⟩ : S49)]) x10 (wrap64 (x11 + 1))) else (none))) else (some (x2, 0))
end
def synth_New.f (k : Nat) (a0 : Int) : Option ((List (S49)) × Int) := if a0 = 1 then (synth_New.j0 k a0 ([] : List (S49)) false) else (synth_New.j0 k a0 ([] : List (S49)) (a0 != 2))
theorem synth_New.mono_l : ∀ k, (∀ y0 y1 y2, LeO (synth_New.j0 k y0 y1 y2) (synth_New.j0 (k + 1) y0 y1 y2)) ∧ (∀ y0 y1 y2, LeO (synth_New.l0 k y0 y1 y2) (synth_New.l0 (k + 1) y0 y1 y2))
  | 0 => ⟨fun _ _ _ r h => by simp [synth_New.j0] at h, fun _ _ _ r h => by simp [synth_New.l0] at h⟩
  | k + 1 => by
    obtain ⟨ih0, ih1⟩ := synth_New.mono_l k
    refine ⟨?_, ?_⟩
    · intro y0 y1 y2
      unfold synth_New.j0
      repeat' first
      | (with_reducible exact ih0 _ _ _)
      | (with_reducible exact ih1 _ _ _)
      | (with_reducible exact LeO.refl _)
      | (with_reducible exact LeO.none _)
      | (with_reducible refine LeO.ite ?_ ?_)
      | (with_reducible refine LeO.bind ?_ (fun _ => ?_))
      | exact ih0 _ _ _
      | exact ih1 _ _ _
      | exact LeO.none _
      | refine LeO.ite ?_ ?_
      | refine LeO.bind ?_ (fun _ => ?_)
    · intro y0 y1 y2
      unfold synth_New.l0
      repeat' first
      | (with_reducible exact ih0 _ _ _)
      | (with_reducible exact ih1 _ _ _)
      | (with_reducible exact LeO.refl _)
      | (with_reducible exact LeO.none _)
      | (with_reducible refine LeO.ite ?_ ?_)
      | (with_reducible refine LeO.bind ?_ (fun _ => ?_))
      | exact ih0 _ _ _
      | exact ih1 _ _ _
      | exact LeO.none _
      | refine LeO.ite ?_ ?_
      | refine LeO.bind ?_ (fun _ => ?_)
theorem synth_New.mono : ∀ a0 k, LeO (synth_New.f k a0) (synth_New.f (k + 1) a0) := by
  intro a0 k
  obtain ⟨ih0, ih1⟩ := synth_New.mono_l k
  unfold synth_New.f
  repeat' first
      | (with_reducible exact ih0 _ _ _)
      | (with_reducible exact ih1 _ _ _)
      | (with_reducible exact LeO.refl _)
      | (with_reducible exact LeO.none _)
      | (with_reducible refine LeO.ite ?_ ?_)
      | (with_reducible refine LeO.bind ?_ (fun _ => ?_))
      | exact ih0 _ _ _
      | exact ih1 _ _ _
      | exact LeO.none _
      | refine LeO.ite ?_ ?_
      | refine LeO.bind ?_ (fun _ => ?_)
set_option maxHeartbeats 8000000 in
set_option maxRecDepth 100000 in
theorem synth_New.calls (k : Nat) (a0 : Int) (r1 : List (S49)) (r2 : Int) (w : World) (h : synth_New.f k a0 = some (r1, r2)) :
    Calls Tryz.prog 21 #[.int .i64 a0] w fun e w' => ∃ v0_ : Value, e = .returned (.tuple #[v0_, .int .i64 r2]) ∧ Kd.S k49 49 w' w.heap.size (fun _ => True) v0_ r1 ∧ Below w.heap.size w w' := by
  have HB := Aside0.mk (Below.refl w.heap.size w)
  have H : (if a0 = 1 then (synth_New.j0 k a0 ([] : List (S49)) false) else (synth_New.j0 k a0 ([] : List (S49)) (a0 != 2))) = some (r1, r2) := h
  clear h
  have HC2 := Aside0.mk H
  clear H
  go_enter Tryz.func21, Tryz.ntmps21
  go_upto_region 1 with (fail)
  go_cut [9] (fun v9 wc => ∃ (kq : Nat) (x9_1 : Bool), v9 = .bool x9_1 ∧ Aside0 (synth_New.j0 kq a0 ([] : List (S49)) x9_1 = some (r1, r2)) ∧ Aside0 (kq ≤ k) ∧ Aside0 (Kd.S k49 49 wc w.heap.size (fun _ => True) (.slice none 0 0) ([] : List (S49))) ∧ Aside0 (Below w.heap.size w wc))
  case first =>
    have H := HC2.out
    clear HC2
    by_cases c3 : a0 = 1
    · rw [if_pos c3] at H
      have c3b0 : (a0 == 1) = true := beq_iff_eq.mpr c3
      have c3b1 : (a0 != 1) = false := bne_eq_false_iff_eq.mpr c3
      clear c3
      (first | rw [c3b0] | (simp only [i64_w, i32_w]; rw [c3b0]) | skip)
      have H' := Aside0.mk H
      clear H
      go_wp2
      go_meet
      case rel => exact ⟨_, (false), (by first | rfl | (simp; done) | (simp [*]; done)), H', ⟨by first | omega | exact Nat.le_refl _⟩, ⟨by first | exact Kd.S_nil _ _ _ _ _ | exact Kd.N_nil _ _ _ _ _ | exact Kd.V_nil _ _ _ _ _ | exact Kd.Q_nil _ _ _ _ _ | exact Kd.R_nil _ _ _ _ _⟩, ⟨by repeat (first | (with_reducible first | exact HB.out | apply below_alloc | apply pw_below_drewN | apply below_drew1) | exact HB.out)⟩⟩
    · rw [if_neg c3] at H
      have c3b0 : (a0 == 1) = false := beq_eq_false_iff_ne.mpr c3
      have c3b1 : (a0 != 1) = true := bne_iff_ne.mpr c3
      (first | rw [c3b0] | (simp only [i64_w, i32_w]; rw [c3b0]) | skip)
      have H' := Aside0.mk H
      clear H
      go_wp2
      go_meet
      case rel => exact ⟨_, ((a0 != 2)), (by first | rfl | (simp; done) | (simp [*]; done)), H', ⟨by first | omega | exact Nat.le_refl _⟩, ⟨by first | exact Kd.S_nil _ _ _ _ _ | exact Kd.N_nil _ _ _ _ _ | exact Kd.V_nil _ _ _ _ _ | exact Kd.Q_nil _ _ _ _ _ | exact Kd.R_nil _ _ _ _ _⟩, ⟨by repeat (first | (with_reducible first | exact HB.out | apply below_alloc | apply pw_below_drewN | apply below_drew1) | exact HB.out)⟩⟩
  case rest =>
    clear HC2
    try clear c2
    try clear p2
    try clear c3
    try clear c3b0
    try clear c3b1
    obtain ⟨kq, x9_1, rfl, HA, HJ1, HO_2, HB⟩ := hcut
    cases kq with
    | zero => exact absurd HA.out (by simp [synth_New.j0])
    | succ kj1 =>
      have H := HA.out
      clear HA
      simp only [synth_New.j0] at H
      by_cases c4 : x9_1 = true
      · subst c4
        have H1 : (some (([] : List (S49)), 2)) = some (r1, r2) := by rw [if_pos rfl] at H; exact H
        clear H
        have H := H1
        clear H1
        simp only [Option.some.injEq, Prod.mk.injEq] at H
        obtain ⟨rfl, rfl⟩ := H
        go_wp2
        go_ret2
        exact ⟨_, by first | rfl | (simp [errW_none, errW_some] <;> rfl) | (simp [*, errW_none, errW_some] <;> rfl), by first | exact Kd.S_nil _ _ _ _ _ | exact Kd.N_nil _ _ _ _ _ | exact Kd.V_nil _ _ _ _ _ | exact Kd.Q_nil _ _ _ _ _ | exact Kd.R_nil _ _ _ _ _, by repeat (first | (with_reducible first | exact HB.out | apply below_alloc | apply pw_below_drewN | apply below_drew1) | exact HB.out)⟩
      · replace c4 := Bool.eq_false_iff.mpr c4
        subst c4
        have H1 : (synth_New.l0 kj1 ([] : List (S49)) a0 0) = some (r1, r2) := by rw [if_neg (show ¬ (false = true) by decide)] at H; exact H
        clear H
        have H := H1
        clear H1
        have H' := Aside0.mk H
        clear H
        go_wp2
        go_loopg [2, 11] kj1 (fun kq v2 v11 w' => ∃ (x2_2 : List (S49)) (x11_2 : Int), v11 = .int .i64 x11_2 ∧ Aside0 (synth_New.l0 kq x2_2 a0 x11_2 = some (r1, r2)) ∧ Aside0 (kq ≤ kj1) ∧ Aside0 (Kd.S k49 49 w' w.heap.size (fun _ => True) v2 x2_2) ∧ Aside0 (Below w.heap.size w w'))
        case atStart => exact ⟨(([] : List (S49))), (0), (by first | rfl | (simp; done) | (simp [*]; done)), H', ⟨Nat.le_refl _⟩, ⟨by (with_reducible repeat (first | apply Kd.S_alloc | apply Kd.S_drewN | apply Kd.S_drew)); exact HO_2.out⟩, ⟨by repeat (first | (with_reducible first | exact HB.out | apply below_alloc | apply pw_below_drewN | apply below_drew1) | exact HB.out)⟩⟩
        case round =>
          clear H'
          try clear c2
          try clear p2
          try clear c3
          try clear c3b0
          try clear c3b1
          try clear c4
          try clear p2
          obtain ⟨x2_2, x11_2, rfl, HA, HK2, HO_2, HB⟩ := hrel
          cases gk with
          | zero => exact absurd HA.out (by simp [synth_New.l0])
          | succ k2 =>
            have H := HA.out
            clear HA
            simp only [synth_New.l0] at H
            by_cases c5 : x11_2 < a0
            · rw [if_pos c5] at H
              have c5b0 : decide (x11_2 < a0) = true := decide_eq_true c5
              clear c5
              replace H := Option.bind_eq_some_iff.mp H
              obtain ⟨⟨t105, t108, t109⟩, A60, H⟩ := H
              replace H : (if x2_2.length < 4398046511104 then (synth_New.l0 k2 (x2_2 ++ [(⟨t105, t108, t109⟩ : S49)]) a0 (wrap64 (x11_2 + 1))) else (none)) = some (r1, r2) := H
              have A6 := Aside0.mk A60
              clear A60
              by_cases c7 : x2_2.length < 4398046511104
              · rw [if_pos c7] at H
                have LMc7 := Aside0.mk c7
                clear c7
                obtain ⟨y110, hy110⟩ : ∃ y_ : List (S49), y_ = (x2_2 ++ [(⟨t105, t108, t109⟩ : S49)]) := ⟨_, rfl⟩
                replace H : (synth_New.l0 k2 y110 a0 (wrap64 (x11_2 + 1))) = some (r1, r2) := by first | (rw [hy110]; with_reducible exact H) | (have H2_ := (Option.bind_some _ _).symm.trans H; rw [hy110]; with_reducible exact H2_) | (have H2_ := (Option.bind_some _ _).symm.trans H; with_reducible exact H2_) | with_reducible exact H | (rw [hy110]; exact H) | exact H
                have Ny110 := Aside0.mk hy110
                clear hy110
                have H' := Aside0.mk H
                clear H
                go_wp2_with (first | ((with_reducible refine gate_callee (f := 17) rfl ?_); refine goesL_ (some 14) rfl rfl Tryz.func17 (by kernel_rfl) rfl #[] rfl (by (try simp only [List.map_toArray, List.map_cons, List.map_nil]); first | done | rfl | (simp only [List.length_drop, List.length_take]; rfl)) ?_; (with_reducible refine (lap_New.calls  t105 t108 t109 _ A6.out).mono ?_); rintro e w8 ⟨v106, rfl, ho0, hb⟩; refine ⟨_, rfl, ?_⟩; have n0_ := Aside0.mk (Kd.S_elder' (by (with_reducible repeat (first | apply Kd.S_alloc | apply Kd.S_drewN | apply Kd.S_drew)); exact HO_2.out) (Kd.R_base ho0) hb); have n1_ := Aside0.mk (Kd.R_lower ho0 (below_size (by repeat (first | (with_reducible first | exact HB.out | apply below_alloc | apply pw_below_drewN | apply below_drew1) | exact HB.out)))); have n2_ := Aside0.mk (below_step (by repeat (first | (with_reducible first | exact HB.out | apply below_alloc | apply pw_below_drewN | apply below_drew1) | exact HB.out)) hb); clear HO_2; clear HB; have HO_2 := n0_; have HO107 := n1_; have HB := n2_; clear n0_ n1_ n2_; (try clear hb); (try clear hb2); (try clear hk); (try clear hi); (try clear ho0); obtain ⟨Ao10, co10, eo10⟩ := Kd.R_slice HO107.out; subst eo10) | ((with_reducible refine gate_builtin (b := .append) (xs := #[.tmp 13, .tmp 15]) rfl ?_); at_builtin; refine Kd.S_append k49 (w0 := w) w.heap.size rfl (.tmp 13) (.tmp 15) 59 49 (.agg #[(.slice none 0 0), (.int .u8 0), (.int .u8 0)]) 32 rfl Tryz.underlying59 info49 rfl (by decide) (by omega) u2 x2_2 (⟨t105, t108, t109⟩ : S49) [.slice Ao10 t105.length co10, .int .u8 t108, .int .u8 t109] (fun _ => True) (fun k_ => some k_ = (.slice Ao10 t105.length co10 : Value).ownBlock) rfl rfl ?aP (fun k_ hk_ => ((Kd.R_mono (ok' := fun k_ => ((fun _ => True)) k_ ∧ some k_ ≠ (u2 : Value).ownBlock) (Kd.R_apart' (HO107.out) (Kd.S_typed HO_2.out) (by decide)) (fun k_ hk => ⟨trivial, hk.2⟩))).1 k_ hk_.symm) ?aF ?aO ?aB ?aS ?aL ?_; (case aP => exact k49_mkM _ _ _ (⟨t105, t108, t109⟩ : S49) (Kd.R_mono (Kd.R_tight rfl (Kd.R_mono (ok' := fun k_ => ((fun _ => True)) k_ ∧ some k_ ≠ (u2 : Value).ownBlock) (Kd.R_apart' (HO107.out) (Kd.S_typed HO_2.out) (by decide)) (fun k_ hk => ⟨trivial, hk.2⟩))) (fun _ h_ => h_))); (case aB => exact (by repeat (first | (with_reducible first | exact HB.out | apply below_alloc | apply pw_below_drewN | apply below_drew1) | exact HB.out))); (case aF => exact (fun _ _ => trivial)); (case aO => exact (by (with_reducible repeat (first | apply Kd.S_alloc | apply Kd.S_drewN | apply Kd.S_drew)); exact Kd.S_mono HO_2.out (fun k_ hk => ⟨trivial, fun e_ => hk.2 e_⟩))); (case aS => exact (below_size (by repeat (first | (with_reducible first | exact HB.out | apply below_alloc | apply pw_below_drewN | apply below_drew1) | exact HB.out)))); (case aL => have := LMc7.out; omega); intro v111 w9 ho hb hg hat; rw [← Ny110.out] at ho; have n0_ := Aside0.mk (hb); have n1_ := Aside0.mk (ho); clear HB; clear HO_2; clear HO107; have HB := n0_; have HO112 := n1_; clear n0_ n1_; clear ho hb hg hat))
                go_roundg k2
                case measure => have := HJ1.out; have := HK2.out; omega
                case rel => exact ⟨(y110), (wrap64 (x11_2 + 1)), (by first | rfl | (simp; done) | (simp [*]; done)), H', ⟨by have := HJ1.out; have := HK2.out; omega⟩, ⟨by (with_reducible repeat (first | apply Kd.S_alloc | apply Kd.S_drewN | apply Kd.S_drew)); exact HO112.out⟩, ⟨by repeat (first | (with_reducible first | exact HB.out | apply below_alloc | apply pw_below_drewN | apply below_drew1) | exact HB.out)⟩⟩
              · rw [if_neg c7] at H
                exact absurd H (by simp)
            · rw [if_neg c5] at H
              have c5b0 : decide (x11_2 < a0) = false := decide_eq_false c5
              clear c5
              simp only [Option.some.injEq, Prod.mk.injEq] at H
              obtain ⟨rfl, rfl⟩ := H
              go_wp2
              go_ret2
              exact ⟨_, by first | rfl | (simp [errW_none, errW_some] <;> rfl) | (simp [*, errW_none, errW_some] <;> rfl), by (with_reducible repeat (first | apply Kd.S_alloc | apply Kd.S_drewN | apply Kd.S_drew)); exact HO_2.out, by repeat (first | (with_reducible first | exact HB.out | apply below_alloc | apply pw_below_drewN | apply below_drew1) | exact HB.out)⟩

end Go.Proofs.YtplmmoaljlnbdaaGreat.Hd
end

section
/- Silence: what the functions make of it, by computing. -/
namespace Go.Proofs.YtplmmoaljlnbdaaGreat.Hd
open Go.RowKit Go.Shelf Go.Proofs.YtplmmoaljlnbdaaGreatW.PrintWords Go.Proofs.YtplmmoaljlnbdaaGreatW.PrintMore
set_option linter.unusedVariables false
set_option linter.unusedSimpArgs false

theorem new_one : synth_New.f 5 1 = some ([⟨List.replicate 256 0, 0, 0⟩], 0) := by
  have h1 : lap_New.f = some (List.replicate 256 0, 0, 0) := by unfold lap_New.f; rw [if_pos (by decide)]
  generalize List.replicate 256 (0 : Int) = z at h1 ⊢
  simp [synth_New.f, synth_New.j0, synth_New.l0, h1, wrap64]
theorem seq_silence : lose_Seq.f 300 0 = some (0, 0) := by decide +kernel
theorem check_silence : lap_Check.f (List.replicate 256 0) 0 0 = some 0 := by decide +kernel
theorem asked_silence : block_asked.f 300 0 0 0 (List.replicate 256 0) 256 (-268435455) 268435455 = some 0 := by decide +kernel
theorem sumGo_zero (by_ : Int) (n : Nat) : ∀ x : Int, sumGo (List.replicate n 0) by_ x 0 = 0 := by
  induction n with
  | zero => intro x; rfl
  | succ n ih =>
    intro x
    rw [List.replicate_succ]
    show sumGo (List.replicate n 0) by_ (wrap64 (x + by_)) (wrap64 (0 + wrap64 (0 * _))) = 0
    rw [Int.zero_mul, show wrap64 (0 + wrap64 0) = 0 by decide +kernel]
    exact ih _
theorem round_bits (m : Nat) : roundOf 0 (bitsFor m) = 0 := by
  unfold bitsFor
  split <;> decide +kernel
theorem inverse_zero (m : Nat) : inverseOf (List.replicate m 0) = List.replicate (2 * m) 0 := by
  refine List.eq_replicate_iff.2 ⟨by simp [inverseOf], fun b hb => ?_⟩
  simp only [inverseOf, List.mem_map] at hb
  obtain ⟨i, _, rfl⟩ := hb
  rw [sumGo_zero, List.length_replicate]
  exact round_bits m
theorem round26 : roundOf 0 26 = 0 := by decide +kernel
theorem round4 : roundOf 0 4 = 0 := by decide +kernel
theorem times_zero (m : Nat) (v : List Int) : timesOf (List.replicate m 0) v 26 = List.replicate m 0 := by
  refine List.eq_replicate_iff.2 ⟨by simp [timesOf], fun b hb => ?_⟩
  simp only [timesOf, List.mem_map] at hb
  obtain ⟨i, _, rfl⟩ := hb
  have e : (List.replicate m (0 : Int)).getD i 0 = 0 := by simp [List.getD_eq_getElem?_getD, List.getElem?_replicate]; split <;> rfl
  rw [e, Int.zero_mul, show wrap64 0 = 0 by decide +kernel]
  exact round26
theorem addGo_zero (m n : Nat) : ∀ at_ : Nat, addGo (List.replicate m 0) at_ (List.replicate n 0) = List.replicate m 0 := by
  induction n with
  | zero => intro a; rfl
  | succ n ih =>
    intro a
    rw [List.replicate_succ]
    show addGo ((List.replicate m 0).set a (wrap64 ((List.replicate m (0 : Int)).getD a 0 + 0))) (a + 1) (List.replicate n 0) = _
    have e : (List.replicate m (0 : Int)).getD a 0 = 0 := by simp [List.getD_eq_getElem?_getD, List.getElem?_replicate]; split <;> rfl
    have e2 : (List.replicate m (0 : Int)).set a 0 = List.replicate m 0 := by
      refine List.eq_replicate_iff.2 ⟨by simp, fun b hb => ?_⟩
      rcases List.mem_or_eq_of_mem_set hb with h | h
      · exact (List.mem_replicate.1 h).2
      · exact h
    rw [e, Int.add_zero, show wrap64 0 = 0 by decide +kernel, e2]
    exact ih _
theorem synthGo_zero (ws : List (Int × List Int)) : ∀ m : Nat, synthGo ws (List.replicate m 0) (List.replicate 512 0) = List.replicate 512 0 := by
  induction ws with
  | nil => intro m; rfl
  | cons x ws ih =>
    intro m
    obtain ⟨a, v⟩ := x
    rw [synthGo, List.take_replicate, List.drop_replicate, inverse_zero, times_zero, addGo_zero]
    exact ih _
theorem synth_silence : block_Synth.f 300 0 0 0 (List.replicate 256 0) = some (List.replicate 512 0, 0) := by
  unfold block_Synth.f
  rw [if_pos (by decide), if_pos (by decide), if_pos (by decide), asked_silence]
  rw [Option.bind_some, if_pos rfl]
  unfold synthOf
  rw [synthGo_zero]
theorem both_zero (m n : Nat) : bothOf (List.replicate m 0) (List.replicate n 0) = List.replicate (min m n) 0 := by
  refine List.eq_replicate_iff.2 ⟨by simp [bothOf], fun b hb => ?_⟩
  simp only [bothOf, List.mem_map] at hb
  obtain ⟨i, _, rfl⟩ := hb
  have e : ∀ m : Nat, (List.replicate m (0 : Int)).getD i 0 = 0 := fun m => by simp [List.getD_eq_getElem?_getD, List.getElem?_replicate]; split <;> rfl
  rw [e, e]
  decide +kernel
theorem next_silence : lap_Next.f 300 (List.replicate 256 0) 0 0 0 0 (List.replicate 256 0) = some (List.replicate 256 0, 0, 0, List.replicate 256 0, 0) := by
  unfold lap_Next.f
  rw [check_silence, Option.bind_some, if_pos rfl, synth_silence, Option.bind_some, if_pos rfl, both_zero]
  have e : sampleOf 0 = 0 := by unfold sampleOf; rw [round4]; decide +kernel
  rw [List.map_replicate, e, List.drop_replicate]
  rfl
theorem lines_silence (at_ many : Int) (h1 : 1 ≤ at_) (h2 : at_ ≤ many) (h3 : many ≤ 65536) : lose_Lines.f (List.replicate 256 0) [] at_ many = some (List.replicate 256 0, 0) := by
  unfold lose_Lines.f
  have ha : (List.replicate 256 (0 : Int)).any farLine = false := by decide +kernel
  rw [if_pos ⟨h1, h2, h3, List.length_replicate, .inr rfl, ha, rfl⟩]
  have e : ((List.range 256).map (lostAt (List.replicate 256 0) [] at_ many)) = List.replicate 256 0 := by
    refine List.eq_replicate_iff.2 ⟨by rw [List.length_map, List.length_range], fun b hb => ?_⟩
    obtain ⟨i, _, rfl⟩ := List.mem_map.1 hb
    have e : (List.replicate 256 (0 : Int)).getD i 0 = 0 := by rw [List.getD_eq_getElem?_getD, List.getElem?_replicate]; split <;> rfl
    unfold lostAt
    rw [if_neg (fun h => h.2 rfl), e]
    split
    · rfl
    · exact Int.zero_ediv _
  rw [e]
end Go.Proofs.YtplmmoaljlnbdaaGreat.Hd
end
