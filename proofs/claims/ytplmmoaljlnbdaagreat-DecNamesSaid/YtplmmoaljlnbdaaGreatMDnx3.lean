/- Gathered by a program (wip/merge.py): PB0x139, PB0x133, HMdct, PB0x189, PB0x140. -/
import Derived.BigQuiet
import Derived.Deep.QuietTactic
import Derived.Test.YtplmmoaljlnbdaaGreatMDnx1
import Derived.Test.YtplmmoaljlnbdaaGreatMDnx2

section
-- Written by a program of this session (wip/hprint.py), out of the translation's own print.
namespace Go.Proofs.YtplmmoaljlnbdaaGreat.Hd
open Go.RowKit Go.Proofs.YtplmmoaljlnbdaaGreatW.PrintWords Go.Proofs.YtplmmoaljlnbdaaGreatW.PrintLast Go.Proofs.YtplmmoaljlnbdaaGreatW.PrintMore Go.Proofs.YtplmmoaljlnbdaaGreat.Hd
attribute [local go_sem] max2_int min2_int max_two min_two max_three min_three max_four min_four   -- for this text's walks alone
set_option linter.unusedVariables false
set_option linter.unusedSimpArgs false

/-! ### trig_Cos: function 232 -/
def trig_Cos.j0 : Nat → Int → Option (Int)
  | 0, _ => none
  | k + 1, x0 => if x0 > 512 then ((trig_quarter.f k (wrap64 (1024 - x0))).bind fun t211 => (some (wrap64 (-t211)))) else ((trig_quarter.f k x0).bind fun t212 => (some t212))
def trig_Cos.f (k : Nat) (a0 : Int) : Option (Int) := if (Go.bits .and .i64 a0 2047) > 1024 then (trig_Cos.j0 k (wrap64 (2048 - (Go.bits .and .i64 a0 2047)))) else (trig_Cos.j0 k (Go.bits .and .i64 a0 2047))
theorem trig_Cos.mono_l : ∀ k, (∀ y0, LeO (trig_Cos.j0 k y0) (trig_Cos.j0 (k + 1) y0))
  | 0 => fun _ r h => by simp [trig_Cos.j0] at h
  | k + 1 => by
    have ih0 := trig_Cos.mono_l k
    · intro y0
      unfold trig_Cos.j0
      repeat' first
      | (with_reducible exact ih0 _)
      | (with_reducible exact trig_quarter.mono _ _)
      | (with_reducible exact LeO.refl _)
      | (with_reducible exact LeO.none _)
      | (with_reducible refine LeO.ite ?_ ?_)
      | (with_reducible refine LeO.bind ?_ (fun _ => ?_))
      | exact ih0 _
      | exact trig_quarter.mono _ _
      | exact LeO.none _
      | refine LeO.ite ?_ ?_
      | refine LeO.bind ?_ (fun _ => ?_)
theorem trig_Cos.mono : ∀ a0 k, LeO (trig_Cos.f k a0) (trig_Cos.f (k + 1) a0) := by
  intro a0 k
  have ih0 := trig_Cos.mono_l k
  unfold trig_Cos.f
  repeat' first
      | (with_reducible exact ih0 _)
      | (with_reducible exact trig_quarter.mono _ _)
      | (with_reducible exact LeO.refl _)
      | (with_reducible exact LeO.none _)
      | (with_reducible refine LeO.ite ?_ ?_)
      | (with_reducible refine LeO.bind ?_ (fun _ => ?_))
      | exact ih0 _
      | exact trig_quarter.mono _ _
      | exact LeO.none _
      | refine LeO.ite ?_ ?_
      | refine LeO.bind ?_ (fun _ => ?_)
set_option maxHeartbeats 8000000 in
set_option maxRecDepth 100000 in
theorem trig_Cos.calls (k : Nat) (a0 : Int) (r : Int) (w : World) (h : trig_Cos.f k a0 = some r) :
    Calls Tryz.prog 232 #[.int .i64 a0] w fun e w' => e = .returned (.int .i64 r) ∧ Below w.heap.size w w' := by
  have HB := Aside0.mk (Below.refl w.heap.size w)
  have H : (if (Go.bits .and .i64 a0 2047) > 1024 then (trig_Cos.j0 k (wrap64 (2048 - (Go.bits .and .i64 a0 2047)))) else (trig_Cos.j0 k (Go.bits .and .i64 a0 2047))) = some r := h
  clear h
  have HC2 := Aside0.mk H
  clear H
  go_enter Tryz.func232, Tryz.ntmps232
  go_upto_if 6 with (fail)
  go_cut [0] (fun v0 wc => ∃ (kq : Nat) (x0_1 : Int), v0 = .int .i64 x0_1 ∧ Aside0 (trig_Cos.j0 kq x0_1 = some r) ∧ Aside0 (kq ≤ k) ∧ Aside0 (Below w.heap.size w wc))
  case first =>
    have H := HC2.out
    clear HC2
    by_cases c3 : (Go.bits .and .i64 a0 2047) > 1024
    · rw [if_pos c3] at H
      have c3b0 : decide (1024 < (Go.bits .and .i64 a0 2047)) = true := decide_eq_true c3
      clear c3
      (first | rw [c3b0] | (simp only [i64_w, i32_w]; rw [c3b0]) | skip)
      have H' := Aside0.mk H
      clear H
      go_wp2
      go_meet
      case rel => exact ⟨_, (wrap64 (2048 - (Go.bits .and .i64 a0 2047))), (by first | rfl | (simp; done) | (simp [*]; done)), H', ⟨by first | omega | exact Nat.le_refl _⟩, ⟨by repeat (first | (with_reducible first | exact HB.out | apply below_alloc | apply pw_below_drewN | apply below_drew1) | exact HB.out)⟩⟩
    · rw [if_neg c3] at H
      have c3b0 : decide (1024 < (Go.bits .and .i64 a0 2047)) = false := decide_eq_false c3
      clear c3
      (first | rw [c3b0] | (simp only [i64_w, i32_w]; rw [c3b0]) | skip)
      have H' := Aside0.mk H
      clear H
      go_wp2
      go_meet
      case rel => exact ⟨_, (Go.bits .and .i64 a0 2047), (by first | rfl | (simp; done) | (simp [*]; done)), H', ⟨by first | omega | exact Nat.le_refl _⟩, ⟨by repeat (first | (with_reducible first | exact HB.out | apply below_alloc | apply pw_below_drewN | apply below_drew1) | exact HB.out)⟩⟩
  case rest =>
    clear HC2
    try clear c2
    try clear p2
    try clear c3
    try clear c3b0
    obtain ⟨kq, x0_1, rfl, HA, HJ1, HB⟩ := hcut
    cases kq with
    | zero => exact absurd HA.out (by simp [trig_Cos.j0])
    | succ kj1 =>
      have H := HA.out
      clear HA
      simp only [trig_Cos.j0] at H
      by_cases c4 : x0_1 > 512
      · rw [if_pos c4] at H
        have c4b0 : decide (512 < x0_1) = true := decide_eq_true c4
        clear c4
        replace H := Option.bind_eq_some_iff.mp H
        obtain ⟨t211, A50, H⟩ := H
        replace H : (some (wrap64 (-t211))) = some r := H
        have A5 := Aside0.mk A50
        clear A50
        obtain rfl := Option.some.inj H
        go_wp2_with (first | ((with_reducible refine gate_callee (f := 276) rfl ?_); refine goesL_ (some 13) rfl rfl Tryz.func276 (by kernel_rfl) rfl #[.int .i64 (wrap64 (1024 - x0_1))] rfl (by (try simp only [List.map_toArray, List.map_cons, List.map_nil]); first | done | rfl | (simp only [List.length_drop, List.length_take]; rfl)) ?_; (with_reducible refine (trig_quarter.calls kj1 (wrap64 (1024 - x0_1)) t211 _ A5.out).mono ?_); rintro e w6 ⟨rfl, hb⟩; refine ⟨_, rfl, ?_⟩; have n0_ := Aside0.mk (below_step (by repeat (first | (with_reducible first | exact HB.out | apply below_alloc | apply pw_below_drewN | apply below_drew1) | exact HB.out)) hb); clear HB; have HB := n0_; clear n0_; (try clear hb); (try clear hb2); (try clear hk); (try clear hi)))
        go_ret
        exact ⟨by first | rfl | (simp [errW_none, errW_some] <;> rfl) | (simp [*, errW_none, errW_some] <;> rfl), by repeat (first | (with_reducible first | exact HB.out | apply below_alloc | apply pw_below_drewN | apply below_drew1) | exact HB.out)⟩
      · rw [if_neg c4] at H
        have c4b0 : decide (512 < x0_1) = false := decide_eq_false c4
        clear c4
        replace H := Option.bind_eq_some_iff.mp H
        obtain ⟨t212, A70, H⟩ := H
        replace H : (some t212) = some r := H
        have A7 := Aside0.mk A70
        clear A70
        obtain rfl := Option.some.inj H
        go_wp2_with (first | ((with_reducible refine gate_callee (f := 276) rfl ?_); refine goesL_ (some 16) rfl rfl Tryz.func276 (by kernel_rfl) rfl #[.int .i64 x0_1] rfl (by (try simp only [List.map_toArray, List.map_cons, List.map_nil]); first | done | rfl | (simp only [List.length_drop, List.length_take]; rfl)) ?_; (with_reducible refine (trig_quarter.calls kj1 x0_1 t212 _ A7.out).mono ?_); rintro e w8 ⟨rfl, hb⟩; refine ⟨_, rfl, ?_⟩; have n0_ := Aside0.mk (below_step (by repeat (first | (with_reducible first | exact HB.out | apply below_alloc | apply pw_below_drewN | apply below_drew1) | exact HB.out)) hb); clear HB; have HB := n0_; clear n0_; (try clear hb); (try clear hb2); (try clear hk); (try clear hi)))
        go_ret
        exact ⟨by first | rfl | (simp [errW_none, errW_some] <;> rfl) | (simp [*, errW_none, errW_some] <;> rfl), by repeat (first | (with_reducible first | exact HB.out | apply below_alloc | apply pw_below_drewN | apply below_drew1) | exact HB.out)⟩

end Go.Proofs.YtplmmoaljlnbdaaGreat.Hd
end

section
-- Written by a program of this session (wip/hprint.py), out of the translation's own print.
namespace Go.Proofs.YtplmmoaljlnbdaaGreat.Hd
open Go.RowKit Go.Proofs.YtplmmoaljlnbdaaGreatW.PrintWords Go.Proofs.YtplmmoaljlnbdaaGreatW.PrintLast Go.Proofs.YtplmmoaljlnbdaaGreatW.PrintMore Go.Proofs.YtplmmoaljlnbdaaGreat.Hd
attribute [local go_sem] max2_int min2_int max_two min_two max_three min_three max_four min_four   -- for this text's walks alone
set_option linter.unusedVariables false
set_option linter.unusedSimpArgs false

/-! ### fix_Round: function 36 -/
def fix_Round.j0 : Nat → Int → Int → Bool → Option (Int × Int)
  | 0, _, _, _ => none
  | k + 1, x0, x1, x19 => if x19 = true then (some (0, 2)) else (if x1 = 0 then (some (x0, 0)) else (if 0 ≤ x1 then (if 0 ≤ (wrap64 (x1 - 1)) then (some (wrap64 ((shr .i64 x0 x1) + (Go.bits .and .i64 (shr .i64 x0 (wrap64 (x1 - 1))) 1)), 0)) else (none)) else (none)))
def fix_Round.f (k : Nat) (a0 : Int) (a1 : Int) : Option (Int × Int) := if a0 < (-4611686018427387904) then (fix_Round.j0 k a0 a1 true) else (if a0 > 4611686018427387904 then (fix_Round.j0 k a0 a1 true) else (if a1 < 0 then (fix_Round.j0 k a0 a1 true) else (fix_Round.j0 k a0 a1 (decide (a1 > 62)))))
theorem fix_Round.mono_l : ∀ k, (∀ y0 y1 y2, LeO (fix_Round.j0 k y0 y1 y2) (fix_Round.j0 (k + 1) y0 y1 y2))
  | 0 => fun _ _ _ r h => by simp [fix_Round.j0] at h
  | k + 1 => by
    have ih0 := fix_Round.mono_l k
    · intro y0 y1 y2
      unfold fix_Round.j0
      repeat' first
      | (with_reducible exact ih0 _ _ _)
      | (with_reducible exact LeO.refl _)
      | (with_reducible exact LeO.none _)
      | (with_reducible refine LeO.ite ?_ ?_)
      | (with_reducible refine LeO.bind ?_ (fun _ => ?_))
      | exact ih0 _ _ _
      | exact LeO.none _
      | refine LeO.ite ?_ ?_
      | refine LeO.bind ?_ (fun _ => ?_)
theorem fix_Round.mono : ∀ a0 a1 k, LeO (fix_Round.f k a0 a1) (fix_Round.f (k + 1) a0 a1) := by
  intro a0 a1 k
  have ih0 := fix_Round.mono_l k
  unfold fix_Round.f
  repeat' first
      | (with_reducible exact ih0 _ _ _)
      | (with_reducible exact LeO.refl _)
      | (with_reducible exact LeO.none _)
      | (with_reducible refine LeO.ite ?_ ?_)
      | (with_reducible refine LeO.bind ?_ (fun _ => ?_))
      | exact ih0 _ _ _
      | exact LeO.none _
      | refine LeO.ite ?_ ?_
      | refine LeO.bind ?_ (fun _ => ?_)
set_option maxHeartbeats 8000000 in
set_option maxRecDepth 100000 in
theorem fix_Round.calls (k : Nat) (a0 : Int) (a1 : Int) (r1 : Int) (r2 : Int) (w : World) (h : fix_Round.f k a0 a1 = some (r1, r2)) :
    Calls Tryz.prog 36 #[.int .i64 a0, .int .i64 a1] w fun e w' => e = .returned (.tuple #[.int .i64 r1, .int .i64 r2]) ∧ Drawn0 w w' := by
  have H : (if a0 < (-4611686018427387904) then (fix_Round.j0 k a0 a1 true) else (if a0 > 4611686018427387904 then (fix_Round.j0 k a0 a1 true) else (if a1 < 0 then (fix_Round.j0 k a0 a1 true) else (fix_Round.j0 k a0 a1 (decide (a1 > 62)))))) = some (r1, r2) := h
  clear h
  have HC3 := Aside0.mk H
  clear H
  go_enter Tryz.func36, Tryz.ntmps36
  go_upto_region 1 with (fail)
  repeat (go_quiet (fail); go_upto_region 1 with (fail))
  go_cut [19] (fun v19 wc => ∃ (kq : Nat) (x19_2 : Bool), v19 = .bool x19_2 ∧ Aside0 (fix_Round.j0 kq a0 a1 x19_2 = some (r1, r2)) ∧ Aside0 (kq ≤ k) ∧ Drawn0 w wc)
  case first =>
    have H := HC3.out
    clear HC3
    by_cases c4 : a0 < (-4611686018427387904)
    · rw [if_pos c4] at H
      have c4b0 : decide (a0 < (-4611686018427387904)) = true := decide_eq_true c4
      clear c4
      (first | rw [c4b0] | (simp only [i64_w, i32_w]; rw [c4b0]) | skip)
      have H' := Aside0.mk H
      clear H
      go_wp2
      repeat (go_quiet (fail); try go_wp2)
      go_meet
      case rel => exact ⟨_, (true), (by first | rfl | (simp; done) | (simp [*]; done)), H', ⟨by first | omega | exact Nat.le_refl _⟩, by repeat (first | exact Drawn0.refl _ | apply Drawn0.step)⟩
    · rw [if_neg c4] at H
      have c4b0 : decide (a0 < (-4611686018427387904)) = false := decide_eq_false c4
      clear c4
      (first | rw [c4b0] | (simp only [i64_w, i32_w]; rw [c4b0]) | skip)
      by_cases c5 : a0 > 4611686018427387904
      · rw [if_pos c5] at H
        have c5b0 : decide (4611686018427387904 < a0) = true := decide_eq_true c5
        clear c5
        have H' := Aside0.mk H
        clear H
        go_wp2
        repeat (go_quiet (fail); try go_wp2)
        go_meet
        case rel => exact ⟨_, (true), (by first | rfl | (simp; done) | (simp [*]; done)), H', ⟨by first | omega | exact Nat.le_refl _⟩, by repeat (first | exact Drawn0.refl _ | apply Drawn0.step)⟩
      · rw [if_neg c5] at H
        have c5b0 : decide (4611686018427387904 < a0) = false := decide_eq_false c5
        clear c5
        by_cases c6 : a1 < 0
        · rw [if_pos c6] at H
          have c6b0 : decide (a1 < 0) = true := decide_eq_true c6
          clear c6
          have H' := Aside0.mk H
          clear H
          go_wp2
          repeat (go_quiet (fail); try go_wp2)
          go_meet
          case rel => exact ⟨_, (true), (by first | rfl | (simp; done) | (simp [*]; done)), H', ⟨by first | omega | exact Nat.le_refl _⟩, by repeat (first | exact Drawn0.refl _ | apply Drawn0.step)⟩
        · rw [if_neg c6] at H
          have c6b0 : decide (a1 < 0) = false := decide_eq_false c6
          clear c6
          have H' := Aside0.mk H
          clear H
          go_wp2
          repeat (go_quiet (fail); try go_wp2)
          go_meet
          case rel => exact ⟨_, (decide (a1 > 62)), (by first | rfl | (simp; done) | (simp [*]; done)), H', ⟨by first | omega | exact Nat.le_refl _⟩, by repeat (first | exact Drawn0.refl _ | apply Drawn0.step)⟩
  case rest =>
    clear HC3
    try clear p2
    try clear c3
    try clear c4
    try clear c4b0
    try clear c5
    try clear c5b0
    try clear c6
    try clear c6b0
    obtain ⟨kq, x19_2, rfl, HA, HJ2, ⟨mc2, rfl⟩⟩ := hcut
    cases kq with
    | zero => exact absurd HA.out (by simp [fix_Round.j0])
    | succ kj2 =>
      have H := HA.out
      clear HA
      simp only [fix_Round.j0] at H
      by_cases c7 : x19_2 = true
      · subst c7
        have H1 : (some (0, 2)) = some (r1, r2) := by rw [if_pos rfl] at H; exact H
        clear H
        have H := H1
        clear H1
        simp only [Option.some.injEq, Prod.mk.injEq] at H
        obtain ⟨rfl, rfl⟩ := H
        go_wp2
        repeat (go_quiet (fail); try go_wp2)
        go_ret2
        exact ⟨by first | rfl | (simp; done) | (simp [*]; done), by repeat (first | exact Drawn0.refl _ | apply Drawn0.step)⟩
      · replace c7 := Bool.eq_false_iff.mpr c7
        subst c7
        have H1 : (if a1 = 0 then (some (a0, 0)) else (if 0 ≤ a1 then (if 0 ≤ (wrap64 (a1 - 1)) then (some (wrap64 ((shr .i64 a0 a1) + (Go.bits .and .i64 (shr .i64 a0 (wrap64 (a1 - 1))) 1)), 0)) else (none)) else (none))) = some (r1, r2) := by rw [if_neg (show ¬ (false = true) by decide)] at H; exact H
        clear H
        have H := H1
        clear H1
        by_cases c8 : a1 = 0
        · rw [if_pos c8] at H
          have c8b0 : (a1 == 0) = true := beq_iff_eq.mpr c8
          have c8b1 : (a1 != 0) = false := bne_eq_false_iff_eq.mpr c8
          clear c8
          simp only [Option.some.injEq, Prod.mk.injEq] at H
          obtain ⟨rfl, rfl⟩ := H
          go_wp2
          repeat (go_quiet (fail); try go_wp2)
          go_ret2
          exact ⟨by first | rfl | (simp; done) | (simp [*]; done), by repeat (first | exact Drawn0.refl _ | apply Drawn0.step)⟩
        · rw [if_neg c8] at H
          have c8b0 : (a1 == 0) = false := beq_eq_false_iff_ne.mpr c8
          have c8b1 : (a1 != 0) = true := bne_iff_ne.mpr c8
          by_cases c9 : 0 ≤ a1
          · rw [if_pos c9] at H
            have c9b0 := eq_true c9
            have c9b1 : decide (0 ≤ a1) = true := decide_eq_true c9
            clear c9
            obtain ⟨ji10, hji10⟩ : ∃ j_ : Int, (shr .i64 a0 a1) = j_ := ⟨_, rfl⟩
            replace H : (if 0 ≤ (wrap64 (a1 - 1)) then (some (wrap64 ((ji10) + (Go.bits .and .i64 (shr .i64 a0 (wrap64 (a1 - 1))) 1)), 0)) else (none)) = some (r1, r2) := by first | (rw [hji10] at H; exact H) | (simp only [hji10] at H ⊢; exact H)
            have hji10_ : (a0 / 2 ^ min a1.toNat 64) = ji10 := hji10
            have hji10z : a1 ≤ 64 → (a0 / 2 ^ a1.toNat) = ji10 := shr_small hji10
            obtain ⟨ji11, hji11⟩ : ∃ j_ : Int, (wrap64 (a1 - 1)) = j_ := ⟨_, rfl⟩
            replace H : (if 0 ≤ (ji11) then (some (wrap64 ((ji10) + (Go.bits .and .i64 (shr .i64 a0 (ji11)) 1)), 0)) else (none)) = some (r1, r2) := by first | (rw [hji11] at H; exact H) | (simp only [hji11] at H ⊢; exact H)
            have hji11w : (IntKind.i64.wrap (a1 - 1)) = ji11 := (i64_w _).trans hji11
            by_cases c12 : 0 ≤ (ji11)
            · rw [if_pos c12] at H
              have c12b0 := eq_true c12
              have c12b1 : decide (0 ≤ (ji11)) = true := decide_eq_true c12
              clear c12
              obtain ⟨ji13, hji13⟩ : ∃ j_ : Int, (shr .i64 a0 (ji11)) = j_ := ⟨_, rfl⟩
              replace H : (some (wrap64 ((ji10) + (Go.bits .and .i64 (ji13) 1)), 0)) = some (r1, r2) := by first | (rw [hji13] at H; exact H) | (simp only [hji13] at H ⊢; exact H)
              have hji13_ : (a0 / 2 ^ min (ji11).toNat 64) = ji13 := hji13
              have hji13z : (ji11) ≤ 64 → (a0 / 2 ^ (ji11).toNat) = ji13 := shr_small hji13
              simp only [Option.some.injEq, Prod.mk.injEq] at H
              obtain ⟨rfl, rfl⟩ := H
              go_wp2
              repeat (go_quiet (fail); try go_wp2)
              go_ret2
              exact ⟨by first | rfl | (simp; done) | (simp only [← hji10, ← hji11, ← hji13] <;> (first | rfl | simp)) | (simp [*]; done), by repeat (first | exact Drawn0.refl _ | apply Drawn0.step)⟩
            · rw [if_neg c12] at H
              exact absurd H (by simp)
          · rw [if_neg c9] at H
            exact absurd H (by simp)

end Go.Proofs.YtplmmoaljlnbdaaGreat.Hd
end

section
/- mdct: the circle, the sums, the transform back. -/
namespace Go.Proofs.YtplmmoaljlnbdaaGreat.Hd
open Go.RowKit Go.Shelf Go.Proofs.YtplmmoaljlnbdaaGreatW.PrintWords Go.Proofs.YtplmmoaljlnbdaaGreatW.PrintMore
set_option linter.unusedVariables false
set_option linter.unusedSimpArgs false

/-- A cosine, as the code has it. -/
def cosOf (n : Int) : Int := (trig_Cos.f 16 n).getD 0
theorem cos_some : ∀ n : Nat, n < 2048 → trig_Cos.f 16 (n : Int) = some (cosOf n) := by
  have h : ((List.range 2048).all fun n => (trig_Cos.f 16 (n : Int)).isSome) = true := by decide +kernel
  intro n hn
  have := List.all_eq_true.1 h n (List.mem_range.2 hn)
  unfold cosOf
  cases e : trig_Cos.f 16 (n : Int) with
  | none => rw [e] at this; cases this
  | some r => rfl

theorem infoCircle : (Tryz.prog.info? 304).map (fun i => (i.zero, i.size, i.bytes)) = some (some (.agg (Array.replicate 2048 (.int .i64 0))), 2048, 16384) := by kernel_rfl

theorem circle_size : Tryz.zeroCells304.size = 2048 := by kernel_rfl

set_option maxRecDepth 100000 in
set_option maxHeartbeats 1000000 in
theorem made_calls (w : World) : Calls Tryz.prog 177 #[] w fun e w' => ∃ B, e = .returned (.pointer (some ⟨B, 0, none⟩)) ∧ w.heap.size ≤ B ∧ B < w'.heap.size ∧ (∀ j : Nat, j < 2048 → w'.cell? ⟨B, j, none⟩ = some (.int .i64 (cosOf j))) ∧ Below w.heap.size w w' := by
  go_enter Tryz.func177, Tryz.ntmps177
  go_wp2
  go_loopw [3] (fun i wr => ∃ (k : Nat) (cs : Array Value), i = .int .i64 (k : Int) ∧ k ≤ 2048 ∧ wr.heap[w.heap.size]? = some (.cells cs 304 (0, 0)) ∧ Aside0 (cs.size = 2048 ∧ ∀ j, j < k → cs[j]? = some (.int .i64 (cosOf j))) ∧ Aside0 (Below w.heap.size w wr))
    (fun i _ => 2048 - (intOf i).toNat)
  case atStart => exact ⟨0, _, rfl, Nat.zero_le _, heap_alloc_new _ _, ⟨circle_size, fun j hj => absurd hj (Nat.not_lt_zero _)⟩, ⟨(Below.refl _ _).alloc (Nat.le_refl _) _⟩⟩
  case round =>
    obtain ⟨k, cs, rfl, hk, hb, HC, HB⟩ := hrel
    by_cases hlt : k < 2048
    · have hc := trig_Cos.calls 16 k (cosOf k) wr (cos_some k hlt)
      have hz := hlt
      have hsz := (Array.getElem?_eq_some_iff.1 hb).1
      go_wp2_with (go_at_call 232; go_must (refine hc.mono ?_; rintro e w2 ⟨rfl, hb2⟩); have h2 := (hb2.block w.heap.size hsz).trans hb; have HB2 := Aside0.mk (below_then HB.out HB.out.size hb2); clear hb2; have hcell := blk_cell h2 k; have hfr := blk_frozen h2 k; (have hk2 : cs[k]? = some (cs[k]'(by have := HC.out.1; omega)) := Array.getElem?_eq_getElem _); rw [hk2] at hcell)
      go_roundw
      case rel =>
        refine ⟨k + 1, _, by simp, by omega, blk_set h2 k _, ⟨by simp [HC.out.1], fun j hj => ?_⟩, ⟨HB2.out.setCell (p := ⟨w.heap.size, k, none⟩) (Nat.le_refl _) _⟩⟩
        by_cases hjk : j = k
        · subst hjk
          rw [Array.getElem?_setIfInBounds_self_of_lt (by rw [HC.out.1]; omega)]
        · rw [Array.getElem?_setIfInBounds_ne (by omega)]
          exact HC.out.2 j (by omega)
      case measure => simp [intOf]; omega
    · obtain rfl : k = 2048 := by omega
      go_wp2
      go_ret
      exact ⟨_, rfl, Nat.le_refl _, (Array.getElem?_eq_some_iff.1 hb).1, fun j hj => (blk_cell hb j).trans (HC.out.2 j hj), HB.out⟩

/-- A sum of numbers times cosines; the arc begins at, and goes on by, what is told. -/
def sumGo (l : List Int) (by_ : Int) : Int → Int → Int := fun x y => match l with
  | [] => y
  | a :: l => sumGo l by_ (wrap64 (x + by_)) (wrap64 (y + wrap64 (a * cosOf (Go.bits .and .i64 x 2047))))
/-- Rounded, as fix.Round does. -/
def roundOf (n : Int) (b : Int) : Int := ((fix_Round.f 4 n b).getD (0, 0)).1
def errOf (n : Int) (b : Int) : Int := ((fix_Round.f 4 n b).getD (0, 0)).2
theorem and_2047 (a : Int) : ∃ m : Nat, Go.bits .and .i64 a 2047 = (m : Int) ∧ m < 2048 := by
  have h : ((BitVec.ofInt 64 a &&& BitVec.ofInt 64 2047).toNat) < 2048 := by
    rw [BitVec.toNat_and]
    have : (BitVec.ofInt 64 2047).toNat = 2047 := by decide
    rw [this]
    exact Nat.lt_of_le_of_lt Nat.and_le_right (by omega)
  refine ⟨(BitVec.ofInt 64 a &&& BitVec.ofInt 64 2047).toNat, ?_, h⟩
  have e : Go.bits .and .i64 a 2047 = IntKind.i64.wrap ((BitVec.ofInt 64 a &&& BitVec.ofInt 64 2047).toNat : Int) := rfl
  rw [e]
  exact wraps_i64 _ (Int.natCast_nonneg _) (by omega)

set_option maxRecDepth 100000 in
set_option maxHeartbeats 1000000 in
theorem sums_calls (g : Nat) (caps : Array Value) (eg : ∀ args w, (callFunc g args).run Tryz.prog w = .ok (.enter g args) w) (at_ by_ : Int → Int) (A : Option Addr) (c : Nat) (l : List Int) (many : Nat) (bits : Int) (w : World)
    (hmany : many ≤ 1048576) (hl : l.length ≤ 1048576)
    (hr : Kd.C (Kd.int .i64) w A l.length l) (hro : ∀ n, fix_Round.f 4 n bits = some (roundOf n bits, errOf n bits))
    (hp : ∀ W, ∀ i : Nat, i < many → Below w.heap.size w W → Calls Tryz.prog g (#[.int .i64 (i : Int)] ++ caps) W fun e W' => e = .returned (.tuple #[.int .i64 (at_ i), .int .i64 (by_ i)]) ∧ Below W.heap.size W W') :
    Calls Tryz.prog 118 #[.slice A l.length c, .int .i64 (many : Int), .int .i64 bits, .func (.func g) #[] caps] w fun e w' => ∃ v, e = .returned v ∧ Kd.R (Kd.int .i64) 3 w' w.heap.size (fun _ => True) v ((List.range many).map fun i : Nat => roundOf (sumGo l (by_ i) (at_ i) 0) bits) ∧ Below w.heap.size w w' := by
  have HR := Aside0.mk hr
  clear hr
  obtain ⟨i0, hi, hz0, hz1, hz2⟩ := info_parts (info3 : (Tryz.prog.info? 3).map (fun i => (i.zero, i.size, i.bytes)) = _)
  have hmk := fun W => run_make (P := Tryz.prog) W 31 3 i0 (.int .i64 0) Tryz.underlying31 hi hz0 .i64 .i64 (many : Int) (many : Int) (by omega) (by omega) (by rw [hz2]; omega) (by omega)
  go_enter Tryz.func118, Tryz.ntmps118
  go_wp2_with (go_at_call 177; go_must (refine (made_calls w).mono ?_; rintro e w1 ⟨B, rfl, hB0, hB1, hcos, hb1⟩); have HC := Aside0.mk hcos; have HB1 := Aside0.mk hb1; clear hcos hb1)
  have hw1 := HB1.out.size
  have R0 : Kd.R (Kd.int .i64) 3 (w1.alloc (.cells (madeCells #[.int .i64 0] many) 3)) w.heap.size (fun _ => True) (.slice (some ⟨w1.heap.size, 0, none⟩) many many) (List.replicate many 0) :=
    R_made w1 w.heap.size 3 .i64 many hw1 (by omega)
  go_loopw [22] (fun i wr => ∃ (k : Nat) (ys : List Int), i = .int .i64 (k : Int) ∧ k ≤ many ∧ Aside0 (ys.length = many ∧ ∀ j, j < k → ys[j]? = some (roundOf (sumGo l (by_ j) (at_ j) 0) bits)) ∧ Aside0 (Kd.R (Kd.int .i64) 3 wr w.heap.size (fun _ => True) (.slice (some ⟨w1.heap.size, 0, none⟩) many many) ys) ∧
      Aside0 (∀ j : Nat, j < 2048 → wr.cell? ⟨B, j, none⟩ = some (.int .i64 (cosOf j))) ∧ Aside0 (Below w.heap.size w wr) ∧ Aside0 (B < wr.heap.size))
    (fun i _ => many - (intOf i).toNat)
  case atStart => exact ⟨0, List.replicate many 0, rfl, Nat.zero_le _, ⟨by simp, fun j hj => absurd hj (Nat.not_lt_zero _)⟩, ⟨R0⟩, ⟨fun j hj => pw_cell_below ((Below.refl _ _).alloc (Nat.le_refl _) _) (HC.out j hj)⟩, ⟨HB1.out.alloc hw1 _⟩, ⟨by simp; omega⟩⟩
  case round =>
    clear HC R0
    obtain ⟨k, ys, rfl, hk, HY, HO, HC, HB, HBl⟩ := hrel
    by_cases hlt : k < many
    · have hpk := hp wr k hlt HB.out
      go_wp2
      refine hpk.mono ?_
      rintro e w2 ⟨rfl, hb2⟩
      have HC2 := Aside0.mk (fun j (hj : j < 2048) => pw_cell_below hb2 (HC.out j hj))
      have HO2 := Aside0.mk (Kd.R_below HO.out hb2)
      have HB2 := Aside0.mk (below_then HB.out HB.out.size hb2)
      have HBl2 := Aside0.mk (Nat.lt_of_lt_of_le HBl.out hb2.size)
      clear hb2 HC HO HB HBl hpk
      have HCl := Aside0.mk (Kd.C_below HR.out HB2.out)
      go_wp2
      go_loopw [12, 14, 33] (fun a s i wi => ∃ (j : Nat) (x y : Int), a = .int .i64 x ∧ s = .int .i64 y ∧ i = .int .i64 (j : Int) ∧ j ≤ l.length ∧ Aside0 (sumGo (l.drop j) (by_ k) x y = sumGo l (by_ k) (at_ k) 0) ∧ wi = w2)
        (fun _ _ i _ => l.length - (intOf i).toNat)
      case atStart => exact ⟨0, _, _, rfl, rfl, rfl, Nat.zero_le _, ⟨by simp⟩, rfl⟩
      case round =>
        obtain ⟨j, x, y, rfl, rfl, rfl, hj, HS, rfl⟩ := hrel
        by_cases hjl : j < l.length
        · obtain ⟨ad, rfl, hcell⟩ := C_at HCl.out j hjl
          have hx : l.getD j 0 = l[j] := by simp [hjl]
          rw [hx] at hcell
          obtain ⟨m, hm, hm2⟩ := and_2047 x
          have hcc := HC2.out m hm2
          have HS' : Aside0 (sumGo (l.drop (j + 1)) (by_ k) (wrap64 (x + by_ k)) (wrap64 (y + wrap64 (l[j] * cosOf m))) = sumGo l (by_ k) (at_ k) 0) := ⟨by
            rw [← HS.out, List.drop_eq_getElem_cons hjl]
            simp only [sumGo, hm]⟩
          go_wp2
          go_roundw
          case rel => exact ⟨j + 1, _, _, rfl, rfl, by simp, by omega, HS', by trivial⟩
          case measure => simp [intOf]; omega
        · have hjl2 : j = l.length := by omega
          have hy : y = sumGo l (by_ k) (at_ k) 0 := by
            have := HS.out
            rw [hjl2, List.drop_length] at this
            exact this
          subst hy
          clear HS
          have hro2 := fix_Round.calls 4 (sumGo l (by_ k) (at_ k) 0) bits _ _ wr (hro _)
          have hyl := HY.out.1
          have HOl : Aside0 (Kd.R (Kd.int .i64) 3 wr w.heap.size (fun _ => True) (.slice (some ⟨w1.heap.size, 0, none⟩) ys.length many) ys) := ⟨by rw [hyl]; exact HO2.out⟩
          clear hyl
          go_wp2_with (go_at_call 36; go_must (refine hro2.mono ?_; rintro e w3 ⟨rfl, ⟨nd, rfl⟩⟩); obtain ⟨hst, hfr⟩ := Kd.R_cell 0 (Kd.R_drewN HOl.out nd) (k : Int) (by omega) (by have := HY.out.1; omega); simp only [Int.toNat_natCast] at hst hfr)
          go_roundw
          case rel =>
            have hput := (Kd.R_put (Kd.R_drewN HOl.out nd) (k : Int) (roundOf (sumGo l (by_ k) (at_ k) 0) bits)).1
            simp only [Int.toNat_natCast] at hput
            rw [HY.out.1] at hput
            refine ⟨k + 1, ys.set k (roundOf (sumGo l (by_ k) (at_ k) 0) bits), by simp, by omega, ⟨by simp [HY.out.1], fun j hj => ?_⟩, ⟨hput⟩, ⟨fun j hj => ?_⟩, ⟨(pw_below_drewN HB2.out nd).setCell (p := ⟨w1.heap.size, k, none⟩) hw1 _⟩, ⟨by simpa using HBl2.out⟩⟩
            · by_cases hjk : j = k
              · subst hjk
                rw [List.getElem?_set_self (by rw [HY.out.1]; omega)]
              · rw [List.getElem?_set_ne (by omega)]
                exact HY.out.2 j (by omega)
            · exact (World.cell?_of_block (Below.heap_setCell (wr.drewN nd) ⟨w1.heap.size, k, none⟩ _ B (by simp; omega))).trans (HC2.out j hj)
          case measure => simp [intOf]; omega
    · obtain rfl : k = many := by omega
      go_wp2
      go_ret
      refine ⟨_, rfl, ?_, HB.out⟩
      have e : (List.range k).map (fun i : Nat => roundOf (sumGo l (by_ i) (at_ i) 0) bits) = ys := by
        refine List.ext_getElem? fun j => ?_
        by_cases hj : j < k
        · rw [HY.out.2 j hj]; simp [hj]
        · rw [List.getElem?_eq_none (by simp; omega), List.getElem?_eq_none (by rw [HY.out.1]; omega)]
      rw [e]
      exact HO.out

def mdct_odd.f (l : List Int) (m : Int) : Option Bool := if 0 ≤ m then if m ≤ 1048576 * 1048576 then if l.length ≤ 1048576 then some (l.any fun n => (decide (n < -m) || decide (m < n))) else none else none else none
theorem odd1_calls (m x : Int) (B : Nat) (w : World) (h0 : 0 ≤ m) (h1 : m ≤ 1048576 * 1048576) (hc : w.cell? ⟨B, 0, none⟩ = some (.int .i64 m)) :
    Calls Tryz.prog 176 #[.int .i64 x, .pointer (some ⟨B, 0, none⟩)] w fun e w' => e = .returned (.bool (decide (x < -m) || decide (m < x))) ∧ Below w.heap.size w w' := by
  go_enter Tryz.func176, Tryz.ntmps176
  by_cases h : x < -m
  · go_wp2
    go_ret
    exact ⟨congrArg (fun b => Ending.returned (Value.bool b)) (by simp; omega), Below.refl _ _⟩
  · go_wp2
    go_ret
    exact ⟨congrArg (fun b => Ending.returned (Value.bool b)) (by simp; omega), Below.refl _ _⟩
theorem mdct_odd.calls (A0 : Option Addr) (c0 : Nat) (l0 : List Int) (a1 : Int) (r : Bool) (w : World) (hr0 : Kd.C (Kd.int .i64) w A0 l0.length l0) (hc0 : l0.length ≤ c0) (h : mdct_odd.f l0 a1 = some r) :
    Calls Tryz.prog 117 #[.slice A0 l0.length c0, .int .i64 a1] w fun e w' => e = .returned (.bool r) ∧ Below w.heap.size w w' := by
  unfold mdct_odd.f at h
  by_cases h0 : 0 ≤ a1
  · rw [if_pos h0] at h
    by_cases h1 : a1 ≤ 1048576 * 1048576
    · rw [if_pos h1] at h
      by_cases h2 : l0.length ≤ 1048576
      · rw [if_pos h2] at h
        simp only [Option.some.injEq] at h
        subst h
        have b0 := Boxed.new w 3 (.int .i64 a1)
        have hcall := containsFunc_calls 176 #[.pointer (some ⟨w.heap.size, 0, none⟩)] (enters_of Tryz.func176 (by kernel_rfl) rfl) (fun n => decide (n < -a1) || decide (a1 < n)) A0 c0 l0 _ (Kd.C_alloc hr0 (.cells #[.int .i64 a1] 3)) (by omega)
          (fun W x _ hW => odd1_calls a1 x w.heap.size W h0 h1 ((hW.cell (p := ⟨w.heap.size, 0, none⟩) (by simp)).trans b0.cell))
        clear hr0
        go_enter Tryz.func117, Tryz.ntmps117
        go_wp2_with (go_at_call 48; go_must (refine hcall.mono ?_; rintro e w2 ⟨rfl, hb⟩); have HB := Aside0.mk hb; clear hb)
        go_ret
        exact ⟨rfl, ((Below.refl _ _).alloc (Nat.le_refl _) _).trans (HB.out.mono (by simp))⟩
      · rw [if_neg h2] at h; cases h
    · rw [if_neg h1] at h; cases h
  · rw [if_neg h0] at h; cases h

def scaleOf (m : Int) : Int := if m = 32 then 8 else 1
theorem scale_calls (m : Int) (w : World) : Calls Tryz.prog 120 #[.int .i64 m] w fun e w' => e = .returned (.int .i64 (scaleOf m)) ∧ w' = w := by
  unfold scaleOf
  by_cases h : m = 32
  · subst h
    go_enter Tryz.func120, Tryz.ntmps120
    go_wp2
    go_ret
    exact ⟨rfl, rfl⟩
  · have t : (m == 32) = false := by simpa using h
    rw [if_neg h]
    clear h
    go_enter Tryz.func120, Tryz.ntmps120
    go_wp2
    go_ret
    exact ⟨rfl, rfl⟩
def arcAt (m i : Int) : Int := wrap64 ((2 * i + 1 + m) * scaleOf m)
theorem inverse1_calls (m i : Int) (B : Nat) (w : World) (hm0 : 0 ≤ m) (hm : m ≤ 256) (hi0 : 0 ≤ i) (hi : i < 1048576) (hc : w.cell? ⟨B, 0, none⟩ = some (.int .i64 m)) :
    Calls Tryz.prog 119 #[.int .i64 i, .pointer (some ⟨B, 0, none⟩)] w fun e w' => e = .returned (.tuple #[.int .i64 (arcAt m i), .int .i64 (wrap64 (2 * arcAt m i))]) ∧ Below w.heap.size w w' := by
  go_enter Tryz.func119, Tryz.ntmps119
  go_wp2
  go_quiet (first | (go_at_call 120; refine Calls.quiet_of_same (scale_calls m _)))
  go_wp2
  go_ret2
  exact ⟨rfl, pw_below_drewN (Below.refl _ _) _⟩

theorem round_some (n b : Int) (h1 : 1 ≤ b) (h2 : b ≤ 62) : fix_Round.f 4 n b = some (roundOf n b, errOf n b) := by
  have hw : wrap64 (b - 1) = b - 1 := by unfold wrap64; omega
  have h : ∃ p, fix_Round.f 4 n b = some p := by
    simp only [fix_Round.f, fix_Round.j0]
    rw [hw]
    by_cases e1 : n < -4611686018427387904
    · rw [if_pos e1, if_pos trivial]; exact ⟨_, rfl⟩
    · rw [if_neg e1]
      by_cases e2 : n > 4611686018427387904
      · rw [if_pos e2, if_pos trivial]; exact ⟨_, rfl⟩
      · rw [if_neg e2, if_neg (by omega), if_neg (by simp; omega), if_neg (by omega), if_pos (by omega), if_pos (by omega)]; exact ⟨_, rfl⟩
  obtain ⟨p, h⟩ := h
  unfold roundOf errOf
  rw [h]
  rfl

def bitsFor (n : Nat) : Int := if n = 32 then 23 else 26
def inverseOf (l : List Int) : List Int := (List.range (2 * l.length)).map fun i : Nat => roundOf (sumGo l (wrap64 (2 * arcAt l.length i)) (arcAt l.length i) 0) (bitsFor l.length)
theorem cell_lt {w : World} {a : Addr} {v : Value} (h : w.cell? a = some v) : a.block < w.heap.size := by
  unfold World.cell? at h
  split at h
  · rename_i c e f hh
    exact (Array.getElem?_eq_some_iff.1 hh).1
  · cases h
def farLine (n : Int) : Bool := decide (n < -268435455) || decide (268435455 < n)
def mdct_Inverse.f (l : List Int) : Option (List Int × Int) := some (if l.length = 256 ∨ l.length = 32 then (if l.any farLine = true then ([], 2) else (inverseOf l, 0)) else ([], 4))
set_option maxRecDepth 100000 in
set_option maxHeartbeats 1000000 in
theorem mdct_Inverse.calls (A0 : Option Addr) (c0 : Nat) (l0 : List Int) (r1 : List Int) (r2 : Int) (w : World) (hr0 : Kd.C (Kd.int .i64) w A0 l0.length l0) (hc0 : l0.length ≤ c0) (h : mdct_Inverse.f l0 = some (r1, r2)) :
    Calls Tryz.prog 60 #[.slice A0 l0.length c0] w fun e w' => ∃ v0_ : Value, e = .returned (.tuple #[v0_, .int .i64 r2]) ∧ Kd.R (Kd.int .i64) 3 w' w.heap.size (fun _ => True) v0_ r1 ∧ Below w.heap.size w w' := by
  unfold mdct_Inverse.f at h
  simp only [Option.some.injEq] at h
  have b0 := Boxed.new w 3 (.int .i64 (l0.length : Int))
  by_cases h1 : l0.length = 256 ∨ l0.length = 32
  · rw [if_pos h1] at h
    have HO := mdct_odd.calls A0 c0 l0 268435455 (l0.any farLine) (w.alloc (.cells #[.int .i64 (l0.length : Int)] 3)) (Kd.C_alloc hr0 _) hc0 (by unfold mdct_odd.f; rw [if_pos (by omega), if_pos (by omega), if_pos (by omega)]; rfl)
    rcases h1 with hlen | hlen
    · have hn : (l0.length : Int) = 256 := by omega
      have t1 : ((l0.length : Int) != 256) = false := by simp; omega
      have t2 : ((l0.length : Int) != 32) = true := by simp; omega
      have t3 : ((l0.length : Int) == 32) = false := by simp; omega
      have hb : bitsFor l0.length = 26 := by unfold bitsFor; simp; omega
      have hn256 : l0.length ≤ 256 := by omega
      clear hn hlen
      cases hfl : l0.any farLine
      · rw [hfl] at h HO
        simp only [Bool.false_eq_true, if_false, Prod.mk.injEq] at h
        obtain ⟨rfl, rfl⟩ := h
        go_enter Tryz.func60, Tryz.ntmps60
        have HR := Aside0.mk hr0
        have HF := Aside0.mk hfl
        have B0 := Aside0.mk b0
        clear hr0 hfl b0
        go_wp2_with (first
          | (go_at_call 117; go_must (refine HO.mono ?_; rintro e w2 ⟨rfl, hb2⟩); have c2 := (hb2.cell (p := ⟨w.heap.size, 0, none⟩) (by simp)).trans B0.out.cell; have HB2 := Aside0.mk (((Below.refl w.heap.size w).alloc (Nat.le_refl _) (.cells #[.int .i64 (l0.length : Int)] 3)).trans (hb2.mono (by simp))); clear hb2)
          | (go_at_call 118; have hs := sums_calls 119 #[.pointer (some ⟨w.heap.size, 0, none⟩)] (enters_of Tryz.func119 (by kernel_rfl) rfl) (arcAt l0.length) (fun i => wrap64 (2 * arcAt l0.length i)) A0 c0 l0 (2 * l0.length) 26 w2 (by omega) (by omega) (Kd.C_below HR.out HB2.out) (fun n => round_some n 26 (by omega) (by omega)) (fun W i hi hW => inverse1_calls l0.length i w.heap.size W (by omega) (by omega) (by omega) (by omega) ((hW.cell (p := ⟨w.heap.size, 0, none⟩) (by have := HB2.out.size; have := B0.out.lt; simp at this; have hq := (cell_lt c2); exact hq)).trans c2)); rw [show ((2 * l0.length : Nat) : Int) = 2 * (l0.length : Int) by simp] at hs; go_must (refine hs.mono ?_; rintro e w3 ⟨v3, rfl, ho, hb3⟩); have HO3 := Aside0.mk ho; have HB3 := Aside0.mk (below_then HB2.out HB2.out.size hb3); clear ho hb3 hs))
        go_ret2
        refine ⟨_, rfl, ?_, HB3.out⟩
        unfold inverseOf
        rw [hb]
        exact Kd.R_lower HO3.out HB2.out.size
      · rw [hfl] at h HO
        simp only [if_true, Prod.mk.injEq] at h
        obtain ⟨rfl, rfl⟩ := h
        go_enter Tryz.func60, Tryz.ntmps60
        have HR := Aside0.mk hr0
        have HF := Aside0.mk hfl
        have B0 := Aside0.mk b0
        clear hr0 hfl b0
        go_wp2_with (first
          | (go_at_call 117; go_must (refine HO.mono ?_; rintro e w2 ⟨rfl, hb2⟩); have c2 := (hb2.cell (p := ⟨w.heap.size, 0, none⟩) (by simp)).trans B0.out.cell; have HB2 := Aside0.mk (((Below.refl w.heap.size w).alloc (Nat.le_refl _) (.cells #[.int .i64 (l0.length : Int)] 3)).trans (hb2.mono (by simp))); clear hb2))
        go_ret2
        exact ⟨_, rfl, Kd.R_nil _ _ _ _ _, HB2.out⟩
    · have hn : (l0.length : Int) = 32 := by omega
      have t1 : ((l0.length : Int) != 256) = true := by simp; omega
      have t2 : ((l0.length : Int) != 32) = false := by simp; omega
      have t3 : ((l0.length : Int) == 32) = true := by simp; omega
      have hb : bitsFor l0.length = 23 := by unfold bitsFor; simp; omega
      have hn256 : l0.length ≤ 256 := by omega
      clear hn hlen
      cases hfl : l0.any farLine
      · rw [hfl] at h HO
        simp only [Bool.false_eq_true, if_false, Prod.mk.injEq] at h
        obtain ⟨rfl, rfl⟩ := h
        go_enter Tryz.func60, Tryz.ntmps60
        have HR := Aside0.mk hr0
        have HF := Aside0.mk hfl
        have B0 := Aside0.mk b0
        clear hr0 hfl b0
        go_wp2_with (first
          | (go_at_call 117; go_must (refine HO.mono ?_; rintro e w2 ⟨rfl, hb2⟩); have c2 := (hb2.cell (p := ⟨w.heap.size, 0, none⟩) (by simp)).trans B0.out.cell; have HB2 := Aside0.mk (((Below.refl w.heap.size w).alloc (Nat.le_refl _) (.cells #[.int .i64 (l0.length : Int)] 3)).trans (hb2.mono (by simp))); clear hb2)
          | (go_at_call 118; have hs := sums_calls 119 #[.pointer (some ⟨w.heap.size, 0, none⟩)] (enters_of Tryz.func119 (by kernel_rfl) rfl) (arcAt l0.length) (fun i => wrap64 (2 * arcAt l0.length i)) A0 c0 l0 (2 * l0.length) 23 w2 (by omega) (by omega) (Kd.C_below HR.out HB2.out) (fun n => round_some n 23 (by omega) (by omega)) (fun W i hi hW => inverse1_calls l0.length i w.heap.size W (by omega) (by omega) (by omega) (by omega) ((hW.cell (p := ⟨w.heap.size, 0, none⟩) (by have := HB2.out.size; have := B0.out.lt; simp at this; have hq := (cell_lt c2); exact hq)).trans c2)); rw [show ((2 * l0.length : Nat) : Int) = 2 * (l0.length : Int) by simp] at hs; go_must (refine hs.mono ?_; rintro e w3 ⟨v3, rfl, ho, hb3⟩); have HO3 := Aside0.mk ho; have HB3 := Aside0.mk (below_then HB2.out HB2.out.size hb3); clear ho hb3 hs))
        go_ret2
        refine ⟨_, rfl, ?_, HB3.out⟩
        unfold inverseOf
        rw [hb]
        exact Kd.R_lower HO3.out HB2.out.size
      · rw [hfl] at h HO
        simp only [if_true, Prod.mk.injEq] at h
        obtain ⟨rfl, rfl⟩ := h
        go_enter Tryz.func60, Tryz.ntmps60
        have HR := Aside0.mk hr0
        have HF := Aside0.mk hfl
        have B0 := Aside0.mk b0
        clear hr0 hfl b0
        go_wp2_with (first
          | (go_at_call 117; go_must (refine HO.mono ?_; rintro e w2 ⟨rfl, hb2⟩); have c2 := (hb2.cell (p := ⟨w.heap.size, 0, none⟩) (by simp)).trans B0.out.cell; have HB2 := Aside0.mk (((Below.refl w.heap.size w).alloc (Nat.le_refl _) (.cells #[.int .i64 (l0.length : Int)] 3)).trans (hb2.mono (by simp))); clear hb2))
        go_ret2
        exact ⟨_, rfl, Kd.R_nil _ _ _ _ _, HB2.out⟩
  · rw [if_neg h1] at h
    simp only [Prod.mk.injEq] at h
    obtain ⟨rfl, rfl⟩ := h
    have t1 : ((l0.length : Int) != 256) = true := by simp; omega
    have t2 : ((l0.length : Int) != 32) = true := by simp; omega
    clear h1
    go_enter Tryz.func60, Tryz.ntmps60
    go_wp2
    go_ret2
    exact ⟨_, rfl, Kd.R_nil _ _ _ _ _, (Below.refl _ _).alloc (Nat.le_refl _) _⟩
end Go.Proofs.YtplmmoaljlnbdaaGreat.Hd
end

section
-- Written by a program of this session (wip/hprint.py), out of the translation's own print.
namespace Go.Proofs.YtplmmoaljlnbdaaGreat.Hd
open Go.RowKit Go.Proofs.YtplmmoaljlnbdaaGreatW.PrintWords Go.Proofs.YtplmmoaljlnbdaaGreatW.PrintLast Go.Proofs.YtplmmoaljlnbdaaGreatW.PrintMore Go.Proofs.YtplmmoaljlnbdaaGreat.Hd
attribute [local go_sem] max2_int min2_int max_two min_two max_three min_three max_four min_four   -- for this text's walks alone
set_option linter.unusedVariables false
set_option linter.unusedSimpArgs false

/-! ### window_bessel: function 274 -/
def window_bessel.l0 : Nat → Int → Int → Int → Int → Option (Int)
  | 0, _, _, _, _ => none
  | k + 1, x0, x3, x4, x5 => if x5 < 64 then (if x3 > 0 then (if (wrap64 ((wrap64 (x5 * x5)) * 65536)) = 0 then (none) else (window_bessel.l0 k x0 (wrap64 (Int.tdiv (wrap64 (x3 * x0)) (wrap64 ((wrap64 (x5 * x5)) * 65536)))) (wrap64 (x4 + (wrap64 (Int.tdiv (wrap64 (x3 * x0)) (wrap64 ((wrap64 (x5 * x5)) * 65536)))))) (wrap64 (x5 + 1)))) else (some x4)) else (some x4)
def window_bessel.f (k : Nat) (a0 : Int) : Option (Int) := window_bessel.l0 k a0 16384 16384 1
theorem window_bessel.mono_l : ∀ k, (∀ y0 y1 y2 y3, LeO (window_bessel.l0 k y0 y1 y2 y3) (window_bessel.l0 (k + 1) y0 y1 y2 y3))
  | 0 => fun _ _ _ _ r h => by simp [window_bessel.l0] at h
  | k + 1 => by
    have ih0 := window_bessel.mono_l k
    · intro y0 y1 y2 y3
      unfold window_bessel.l0
      repeat' first
      | (with_reducible exact ih0 _ _ _ _)
      | (with_reducible exact LeO.refl _)
      | (with_reducible exact LeO.none _)
      | (with_reducible refine LeO.ite ?_ ?_)
      | (with_reducible refine LeO.bind ?_ (fun _ => ?_))
      | exact ih0 _ _ _ _
      | exact LeO.none _
      | refine LeO.ite ?_ ?_
      | refine LeO.bind ?_ (fun _ => ?_)
theorem window_bessel.mono : ∀ a0 k, LeO (window_bessel.f k a0) (window_bessel.f (k + 1) a0) := by
  intro a0 k
  have ih0 := window_bessel.mono_l k
  unfold window_bessel.f
  repeat' first
      | (with_reducible exact ih0 _ _ _ _)
      | (with_reducible exact LeO.refl _)
      | (with_reducible exact LeO.none _)
      | (with_reducible refine LeO.ite ?_ ?_)
      | (with_reducible refine LeO.bind ?_ (fun _ => ?_))
      | exact ih0 _ _ _ _
      | exact LeO.none _
      | refine LeO.ite ?_ ?_
      | refine LeO.bind ?_ (fun _ => ?_)
set_option maxHeartbeats 8000000 in
set_option maxRecDepth 100000 in
theorem window_bessel.calls (k : Nat) (a0 : Int) (r : Int) (w : World) (h : window_bessel.f k a0 = some r) :
    Calls Tryz.prog 274 #[.int .i64 a0] w fun e w' => e = .returned (.int .i64 r) ∧ Drawn0 w w' := by
  have H : (window_bessel.l0 k a0 16384 16384 1) = some r := h
  clear h
  have H' := Aside0.mk H
  clear H
  go_enter Tryz.func274, Tryz.ntmps274
  go_wp2
  go_loopg [3, 4, 5] k (fun kq v3 v4 v5 w' => ∃ (x3_1 : Int) (x4_1 : Int) (x5_1 : Int), v3 = .int .i64 x3_1 ∧ v4 = .int .i64 x4_1 ∧ v5 = .int .i64 x5_1 ∧ Aside0 (window_bessel.l0 kq a0 x3_1 x4_1 x5_1 = some r) ∧ Aside0 (kq ≤ k) ∧ Drawn0 w w')
  case atStart => exact ⟨(16384), (16384), (1), (by first | rfl | (simp; done) | (simp [*]; done)), (by first | rfl | (simp; done) | (simp [*]; done)), (by first | rfl | (simp; done) | (simp [*]; done)), H', ⟨Nat.le_refl _⟩, by repeat (first | exact Drawn0.refl _ | apply Drawn0.step)⟩
  case round =>
    clear H'
    obtain ⟨x3_1, x4_1, x5_1, rfl, rfl, rfl, HA, HK1, ⟨m1, rfl⟩⟩ := hrel
    cases gk with
    | zero => exact absurd HA.out (by simp [window_bessel.l0])
    | succ k1 =>
      have H := HA.out
      clear HA
      simp only [window_bessel.l0] at H
      by_cases c2 : x5_1 < 64
      · rw [if_pos c2] at H
        have c2b0 : decide (x5_1 < 64) = true := decide_eq_true c2
        clear c2
        by_cases c3 : x3_1 > 0
        · rw [if_pos c3] at H
          have c3b0 : decide (0 < x3_1) = true := decide_eq_true c3
          clear c3
          by_cases c4 : (wrap64 ((wrap64 (x5_1 * x5_1)) * 65536)) = 0
          · rw [if_pos c4] at H
            exact absurd H (by simp)
          · rw [if_neg c4] at H
            have c4b0 : ((wrap64 ((wrap64 (x5_1 * x5_1)) * 65536)) == 0) = false := beq_eq_false_iff_ne.mpr c4
            have c4b1 : ((wrap64 ((wrap64 (x5_1 * x5_1)) * 65536)) != 0) = true := bne_iff_ne.mpr c4
            have H' := Aside0.mk H
            clear H
            go_wp2
            go_roundg k1
            case measure => have := HK1.out; omega
            case rel => exact ⟨(wrap64 (Int.tdiv (wrap64 (x3_1 * a0)) (wrap64 ((wrap64 (x5_1 * x5_1)) * 65536)))), (wrap64 (x4_1 + (wrap64 (Int.tdiv (wrap64 (x3_1 * a0)) (wrap64 ((wrap64 (x5_1 * x5_1)) * 65536)))))), (wrap64 (x5_1 + 1)), (by first | rfl | (simp; done) | (simp [*]; done)), (by first | rfl | (simp; done) | (simp [*]; done)), (by first | rfl | (simp; done) | (simp [*]; done)), H', ⟨by have := HK1.out; omega⟩, by repeat (first | exact Drawn0.refl _ | apply Drawn0.step)⟩
        · rw [if_neg c3] at H
          have c3b0 : decide (0 < x3_1) = false := decide_eq_false c3
          clear c3
          obtain rfl := Option.some.inj H
          go_wp2
          go_ret
          exact ⟨by first | rfl | (simp; done) | (simp [*]; done), by repeat (first | exact Drawn0.refl _ | apply Drawn0.step)⟩
      · rw [if_neg c2] at H
        have c2b0 : decide (x5_1 < 64) = false := decide_eq_false c2
        clear c2
        obtain rfl := Option.some.inj H
        go_wp2
        go_ret
        exact ⟨by first | rfl | (simp; done) | (simp [*]; done), by repeat (first | exact Drawn0.refl _ | apply Drawn0.step)⟩

end Go.Proofs.YtplmmoaljlnbdaaGreat.Hd
end

section
-- Written by a program of this session (wip/hprint.py), out of the translation's own print.
namespace Go.Proofs.YtplmmoaljlnbdaaGreat.Hd
open Go.RowKit Go.Proofs.YtplmmoaljlnbdaaGreatW.PrintWords Go.Proofs.YtplmmoaljlnbdaaGreatW.PrintLast Go.Proofs.YtplmmoaljlnbdaaGreatW.PrintMore Go.Proofs.YtplmmoaljlnbdaaGreat.Hd
attribute [local go_sem] max2_int min2_int max_two min_two max_three min_three max_four min_four   -- for this text's walks alone
set_option linter.unusedVariables false
set_option linter.unusedSimpArgs false

/-! ### trig_Sin: function 230 -/
def trig_Sin.f (k : Nat) (a0 : Int) : Option (Int) := (trig_Cos.f k (wrap64 ((Go.bits .and .i64 a0 2047) - 512))).bind fun t213 => (some t213)
theorem trig_Sin.mono : ∀ a0 k, LeO (trig_Sin.f k a0) (trig_Sin.f (k + 1) a0) := by
  intro a0 k
  unfold trig_Sin.f
  repeat' first
      | (with_reducible exact trig_Cos.mono _ _)
      | (with_reducible exact LeO.refl _)
      | (with_reducible exact LeO.none _)
      | (with_reducible refine LeO.ite ?_ ?_)
      | (with_reducible refine LeO.bind ?_ (fun _ => ?_))
      | exact trig_Cos.mono _ _
      | exact LeO.none _
      | refine LeO.ite ?_ ?_
      | refine LeO.bind ?_ (fun _ => ?_)
set_option maxHeartbeats 8000000 in
set_option maxRecDepth 100000 in
theorem trig_Sin.calls (k : Nat) (a0 : Int) (r : Int) (w : World) (h : trig_Sin.f k a0 = some r) :
    Calls Tryz.prog 230 #[.int .i64 a0] w fun e w' => e = .returned (.int .i64 r) ∧ Below w.heap.size w w' := by
  have HB := Aside0.mk (Below.refl w.heap.size w)
  have H : ((trig_Cos.f k (wrap64 ((Go.bits .and .i64 a0 2047) - 512))).bind fun t213 => (some t213)) = some r := h
  clear h
  replace H := Option.bind_eq_some_iff.mp H
  obtain ⟨t213, A20, H⟩ := H
  replace H : (some t213) = some r := H
  have A2 := Aside0.mk A20
  clear A20
  obtain rfl := Option.some.inj H
  go_enter Tryz.func230, Tryz.ntmps230
  go_wp2_with (first | ((with_reducible refine gate_callee (f := 232) rfl ?_); refine goesL_ (some 6) rfl rfl Tryz.func232 (by kernel_rfl) rfl #[.int .i64 (wrap64 ((Go.bits .and .i64 a0 2047) - 512))] rfl (by (try simp only [List.map_toArray, List.map_cons, List.map_nil]); first | done | rfl | (simp only [List.length_drop, List.length_take]; rfl)) ?_; (with_reducible refine (trig_Cos.calls k (wrap64 ((Go.bits .and .i64 a0 2047) - 512)) t213 _ A2.out).mono ?_); rintro e w3 ⟨rfl, hb⟩; refine ⟨_, rfl, ?_⟩; have n0_ := Aside0.mk (below_step (by repeat (first | (with_reducible first | exact HB.out | apply below_alloc | apply pw_below_drewN | apply below_drew1) | exact HB.out)) hb); clear HB; have HB := n0_; clear n0_; (try clear hb); (try clear hb2); (try clear hk); (try clear hi)))
  go_ret
  exact ⟨by first | rfl | (simp [errW_none, errW_some] <;> rfl) | (simp [*, errW_none, errW_some] <;> rfl), by repeat (first | (with_reducible first | exact HB.out | apply below_alloc | apply pw_below_drewN | apply below_drew1) | exact HB.out)⟩

end Go.Proofs.YtplmmoaljlnbdaaGreat.Hd
end
