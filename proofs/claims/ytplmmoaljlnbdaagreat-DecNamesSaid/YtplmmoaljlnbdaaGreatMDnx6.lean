/- Gathered by a program (wip/merge.py): PB1x188, HSynthB, HSl, HLapCheck, PB0x212. -/
import Derived.Test.YtplmmoaljlnbdaaGreatMDnx1
import Derived.Test.YtplmmoaljlnbdaaGreatMDnx2
import Derived.Test.YtplmmoaljlnbdaaGreatMDnx3
import Derived.Test.YtplmmoaljlnbdaaGreatMDnx5

section
-- Written by a program of this session (wip/hprint.py), out of the translation's own print.
namespace Go.Proofs.YtplmmoaljlnbdaaGreat.Hd
open Go.RowKit Go.Proofs.YtplmmoaljlnbdaaGreatW.PrintWords Go.Proofs.YtplmmoaljlnbdaaGreatW.PrintLast Go.Proofs.YtplmmoaljlnbdaaGreatW.PrintMore Go.Proofs.YtplmmoaljlnbdaaGreat.Hd
attribute [local go_sem] max2_int min2_int max_two min_two max_three min_three max_four min_four   -- for this text's walks alone
set_option linter.unusedVariables false
set_option linter.unusedSimpArgs false

/-! ### block_asked: function 58 -/
def block_asked.j0 : Nat → List Int → Int → Int → Int → Bool → Option (Int)
  | 0, _, _, _, _, _ => none
  | k + 1, x3, x4, x5, x6, x15 => if x15 = true then (some 2) else (if (x3.length : Int) = x4 then ((slices_Min_int_int.f x3).bind fun t174 => (if t174 < x5 then (some 2) else ((slices_Max_int_int.f x3).bind fun t175 => (if t175 > x6 then (some 2) else (some 0))))) else (some 4))
def block_asked.f (k : Nat) (a0 : Int) (a1 : Int) (a2 : Int) (l3 : List Int) (a4 : Int) (a5 : Int) (a6 : Int) : Option (Int) := if a0 > 3 then (block_asked.j0 k l3 a4 a5 a6 true) else ((block_shaped.f a1 a2).bind fun t173 => (block_asked.j0 k l3 a4 a5 a6 (!t173)))
theorem block_asked.mono_l : ∀ k, (∀ y0 y1 y2 y3 y4, LeO (block_asked.j0 k y0 y1 y2 y3 y4) (block_asked.j0 (k + 1) y0 y1 y2 y3 y4))
  | 0 => fun _ _ _ _ _ r h => by simp [block_asked.j0] at h
  | k + 1 => by
    have ih0 := block_asked.mono_l k
    · intro y0 y1 y2 y3 y4
      unfold block_asked.j0
      repeat' first
      | (with_reducible exact ih0 _ _ _ _ _)
      | (with_reducible exact LeO.refl _)
      | (with_reducible exact LeO.none _)
      | (with_reducible refine LeO.ite ?_ ?_)
      | (with_reducible refine LeO.bind ?_ (fun _ => ?_))
      | exact ih0 _ _ _ _ _
      | exact LeO.none _
      | refine LeO.ite ?_ ?_
      | refine LeO.bind ?_ (fun _ => ?_)
theorem block_asked.mono : ∀ a0 a1 a2 a3 a4 a5 a6 k, LeO (block_asked.f k a0 a1 a2 a3 a4 a5 a6) (block_asked.f (k + 1) a0 a1 a2 a3 a4 a5 a6) := by
  intro a0 a1 a2 a3 a4 a5 a6 k
  have ih0 := block_asked.mono_l k
  unfold block_asked.f
  repeat' first
      | (with_reducible exact ih0 _ _ _ _ _)
      | (with_reducible exact LeO.refl _)
      | (with_reducible exact LeO.none _)
      | (with_reducible refine LeO.ite ?_ ?_)
      | (with_reducible refine LeO.bind ?_ (fun _ => ?_))
      | exact ih0 _ _ _ _ _
      | exact LeO.none _
      | refine LeO.ite ?_ ?_
      | refine LeO.bind ?_ (fun _ => ?_)
set_option maxHeartbeats 8000000 in
set_option maxRecDepth 100000 in
theorem block_asked.calls (k : Nat) (a0 : Int) (a1 : Int) (a2 : Int) (A3 : Option Addr) (c3 : Nat) (l3 : List Int) (a4 : Int) (a5 : Int) (a6 : Int) (r : Int) (w : World) (hr3 : Kd.C (Kd.int .i64) w A3 l3.length l3) (hc3 : l3.length ≤ c3) (h : block_asked.f k a0 a1 a2 l3 a4 a5 a6 = some r) :
    Calls Tryz.prog 58 #[.int .u8 a0, .int .u8 a1, .int .u8 a2, .slice A3 l3.length c3, .int .i64 a4, .int .i64 a5, .int .i64 a6] w fun e w' => e = .returned (.int .i64 r) ∧ Below w.heap.size w w' := by
  have HR3 := Aside0.mk hr3
  have HC3 := Aside0.mk hc3
  clear hr3 hc3
  have HB := Aside0.mk (Below.refl w.heap.size w)
  have H : (if a0 > 3 then (block_asked.j0 k l3 a4 a5 a6 true) else ((block_shaped.f a1 a2).bind fun t173 => (block_asked.j0 k l3 a4 a5 a6 (!t173)))) = some r := h
  clear h
  have HC8 := Aside0.mk H
  clear H
  go_enter Tryz.func58, Tryz.ntmps58
  go_upto_region 1 with (fail)
  go_cut [15] (fun v15 wc => ∃ (kq : Nat) (x15_7 : Bool), v15 = .bool x15_7 ∧ Aside0 (block_asked.j0 kq l3 a4 a5 a6 x15_7 = some r) ∧ Aside0 (kq ≤ k) ∧ Aside0 (Below w.heap.size w wc))
  case first =>
    have H := HC8.out
    clear HC8
    by_cases c9 : a0 > 3
    · rw [if_pos c9] at H
      have c9b0 : decide (3 < a0) = true := decide_eq_true c9
      clear c9
      (first | rw [c9b0] | (simp only [i64_w, i32_w]; rw [c9b0]) | skip)
      have H' := Aside0.mk H
      clear H
      go_wp2
      go_meet
      case rel => exact ⟨_, (true), (by first | rfl | (simp; done) | (simp [*]; done)), H', ⟨by first | omega | exact Nat.le_refl _⟩, ⟨by repeat (first | (with_reducible first | exact HB.out | apply below_alloc | apply pw_below_drewN | apply below_drew1) | exact HB.out)⟩⟩
    · rw [if_neg c9] at H
      have c9b0 : decide (3 < a0) = false := decide_eq_false c9
      clear c9
      (first | rw [c9b0] | (simp only [i64_w, i32_w]; rw [c9b0]) | skip)
      replace H := Option.bind_eq_some_iff.mp H
      obtain ⟨t173, A100, H⟩ := H
      replace H : (block_asked.j0 k l3 a4 a5 a6 (!t173)) = some r := H
      have A10 := Aside0.mk A100
      clear A100
      have H' := Aside0.mk H
      clear H
      go_wp2_with (first | (go_at_call 110; (with_reducible refine (block_shaped.calls a1 a2 t173 _ A10.out).mono ?_); rintro e w' ⟨rfl, ⟨nd, rfl⟩⟩))
      go_meet
      case rel => exact ⟨_, (!t173), (by first | rfl | (simp; done) | (simp [*]; done)), H', ⟨by first | omega | exact Nat.le_refl _⟩, ⟨by repeat (first | (with_reducible first | exact HB.out | apply below_alloc | apply pw_below_drewN | apply below_drew1) | exact HB.out)⟩⟩
  case rest =>
    clear HC8
    try clear p2
    try clear c3
    try clear c5
    try clear c9
    try clear c9b0
    obtain ⟨kq, x15_7, rfl, HA, HJ7, HB⟩ := hcut
    cases kq with
    | zero => exact absurd HA.out (by simp [block_asked.j0])
    | succ kj7 =>
      have H := HA.out
      clear HA
      simp only [block_asked.j0] at H
      by_cases c11 : x15_7 = true
      · subst c11
        have H1 : (some 2) = some r := by rw [if_pos rfl] at H; exact H
        clear H
        have H := H1
        clear H1
        obtain rfl := Option.some.inj H
        go_wp2
        go_ret
        exact ⟨by first | rfl | (simp [errW_none, errW_some] <;> rfl) | (simp [*, errW_none, errW_some] <;> rfl), by repeat (first | (with_reducible first | exact HB.out | apply below_alloc | apply pw_below_drewN | apply below_drew1) | exact HB.out)⟩
      · replace c11 := Bool.eq_false_iff.mpr c11
        subst c11
        have H1 : (if (l3.length : Int) = a4 then ((slices_Min_int_int.f l3).bind fun t174 => (if t174 < a5 then (some 2) else ((slices_Max_int_int.f l3).bind fun t175 => (if t175 > a6 then (some 2) else (some 0))))) else (some 4)) = some r := by rw [if_neg (show ¬ (false = true) by decide)] at H; exact H
        clear H
        have H := H1
        clear H1
        by_cases c12 : (l3.length : Int) = a4
        · rw [if_pos c12] at H
          have c12b0 : ((l3.length : Int) == a4) = true := beq_iff_eq.mpr c12
          have c12b1 : ((l3.length : Int) != a4) = false := bne_eq_false_iff_eq.mpr c12
          clear c12
          replace H := Option.bind_eq_some_iff.mp H
          obtain ⟨t174, A130, H⟩ := H
          replace H : (if t174 < a5 then (some 2) else ((slices_Max_int_int.f l3).bind fun t175 => (if t175 > a6 then (some 2) else (some 0)))) = some r := H
          have A13 := Aside0.mk A130
          clear A130
          by_cases c14 : t174 < a5
          · rw [if_pos c14] at H
            have c14b0 : decide (t174 < a5) = true := decide_eq_true c14
            clear c14
            obtain rfl := Option.some.inj H
            go_wp2_with (first | ((with_reducible refine gate_callee (f := 111) rfl ?_); refine goesL_ (some 31) rfl rfl Tryz.func111 (by kernel_rfl) rfl #[.slice A3 l3.length c3] rfl (by (try simp only [List.map_toArray, List.map_cons, List.map_nil]); first | done | rfl | (simp only [List.length_drop, List.length_take]; rfl)) ?_; (with_reducible refine (slices_Min_int_int.calls _ _ l3 t174 _ ?side1 ?side2 A13.out).mono ?_); (case side1 => repeat (first | exact (Kd.C_below HR3.out HB.out) | (with_reducible refine Kd.C_alloc ?_ _) | (with_reducible refine Kd.C_drewN ?_ _) | (with_reducible refine Kd.C_drew ?_))); (case side2 => exact HC3.out); rintro e w15 ⟨rfl, hb⟩; refine ⟨_, rfl, ?_⟩; have n0_ := Aside0.mk (below_step (by repeat (first | (with_reducible first | exact HB.out | apply below_alloc | apply pw_below_drewN | apply below_drew1) | exact HB.out)) hb); clear HB; have HB := n0_; clear n0_; (try clear hb); (try clear hb2); (try clear hk); (try clear hi)))
            go_ret
            exact ⟨by first | rfl | (simp [errW_none, errW_some] <;> rfl) | (simp [*, errW_none, errW_some] <;> rfl), by repeat (first | (with_reducible first | exact HB.out | apply below_alloc | apply pw_below_drewN | apply below_drew1) | exact HB.out)⟩
          · rw [if_neg c14] at H
            have c14b0 : decide (t174 < a5) = false := decide_eq_false c14
            clear c14
            replace H := Option.bind_eq_some_iff.mp H
            obtain ⟨t175, A160, H⟩ := H
            replace H : (if t175 > a6 then (some 2) else (some 0)) = some r := H
            have A16 := Aside0.mk A160
            clear A160
            by_cases c17 : t175 > a6
            · rw [if_pos c17] at H
              have c17b0 : decide (a6 < t175) = true := decide_eq_true c17
              clear c17
              obtain rfl := Option.some.inj H
              go_wp2_with (first | ((with_reducible refine gate_callee (f := 111) rfl ?_); refine goesL_ (some 31) rfl rfl Tryz.func111 (by kernel_rfl) rfl #[.slice A3 l3.length c3] rfl (by (try simp only [List.map_toArray, List.map_cons, List.map_nil]); first | done | rfl | (simp only [List.length_drop, List.length_take]; rfl)) ?_; (with_reducible refine (slices_Min_int_int.calls _ _ l3 t174 _ ?side1 ?side2 A13.out).mono ?_); (case side1 => repeat (first | exact (Kd.C_below HR3.out HB.out) | (with_reducible refine Kd.C_alloc ?_ _) | (with_reducible refine Kd.C_drewN ?_ _) | (with_reducible refine Kd.C_drew ?_))); (case side2 => exact HC3.out); rintro e w18 ⟨rfl, hb⟩; refine ⟨_, rfl, ?_⟩; have n0_ := Aside0.mk (below_step (by repeat (first | (with_reducible first | exact HB.out | apply below_alloc | apply pw_below_drewN | apply below_drew1) | exact HB.out)) hb); clear HB; have HB := n0_; clear n0_; (try clear hb); (try clear hb2); (try clear hk); (try clear hi)) | (go_at_call 112; (with_reducible refine (slices_Max_int_int.calls _ _ l3 t175 _ ?side1 ?side2 A16.out).mono ?_); (case side1 => repeat (first | exact (Kd.C_below HR3.out HB.out) | (with_reducible refine Kd.C_alloc ?_ _) | (with_reducible refine Kd.C_drewN ?_ _) | (with_reducible refine Kd.C_drew ?_))); (case side2 => exact HC3.out); rintro e w19 ⟨rfl, hb⟩; have n0_ := Aside0.mk (below_step (by repeat (first | (with_reducible first | exact HB.out | apply below_alloc | apply pw_below_drewN | apply below_drew1) | exact HB.out)) hb); clear HB; have HB := n0_; clear n0_; (try clear hb); (try clear hb2); (try clear hk); (try clear hi)))
              go_ret
              exact ⟨by first | rfl | (simp [errW_none, errW_some] <;> rfl) | (simp [*, errW_none, errW_some] <;> rfl), by repeat (first | (with_reducible first | exact HB.out | apply below_alloc | apply pw_below_drewN | apply below_drew1) | exact HB.out)⟩
            · rw [if_neg c17] at H
              have c17b0 : decide (a6 < t175) = false := decide_eq_false c17
              clear c17
              obtain rfl := Option.some.inj H
              go_wp2_with (first | ((with_reducible refine gate_callee (f := 111) rfl ?_); refine goesL_ (some 31) rfl rfl Tryz.func111 (by kernel_rfl) rfl #[.slice A3 l3.length c3] rfl (by (try simp only [List.map_toArray, List.map_cons, List.map_nil]); first | done | rfl | (simp only [List.length_drop, List.length_take]; rfl)) ?_; (with_reducible refine (slices_Min_int_int.calls _ _ l3 t174 _ ?side1 ?side2 A13.out).mono ?_); (case side1 => repeat (first | exact (Kd.C_below HR3.out HB.out) | (with_reducible refine Kd.C_alloc ?_ _) | (with_reducible refine Kd.C_drewN ?_ _) | (with_reducible refine Kd.C_drew ?_))); (case side2 => exact HC3.out); rintro e w20 ⟨rfl, hb⟩; refine ⟨_, rfl, ?_⟩; have n0_ := Aside0.mk (below_step (by repeat (first | (with_reducible first | exact HB.out | apply below_alloc | apply pw_below_drewN | apply below_drew1) | exact HB.out)) hb); clear HB; have HB := n0_; clear n0_; (try clear hb); (try clear hb2); (try clear hk); (try clear hi)) | (go_at_call 112; (with_reducible refine (slices_Max_int_int.calls _ _ l3 t175 _ ?side1 ?side2 A16.out).mono ?_); (case side1 => repeat (first | exact (Kd.C_below HR3.out HB.out) | (with_reducible refine Kd.C_alloc ?_ _) | (with_reducible refine Kd.C_drewN ?_ _) | (with_reducible refine Kd.C_drew ?_))); (case side2 => exact HC3.out); rintro e w21 ⟨rfl, hb⟩; have n0_ := Aside0.mk (below_step (by repeat (first | (with_reducible first | exact HB.out | apply below_alloc | apply pw_below_drewN | apply below_drew1) | exact HB.out)) hb); clear HB; have HB := n0_; clear n0_; (try clear hb); (try clear hb2); (try clear hk); (try clear hi)))
              go_ret
              exact ⟨by first | rfl | (simp [errW_none, errW_some] <;> rfl) | (simp [*, errW_none, errW_some] <;> rfl), by repeat (first | (with_reducible first | exact HB.out | apply below_alloc | apply pw_below_drewN | apply below_drew1) | exact HB.out)⟩
        · rw [if_neg c12] at H
          have c12b0 : ((l3.length : Int) == a4) = false := beq_eq_false_iff_ne.mpr c12
          have c12b1 : ((l3.length : Int) != a4) = true := bne_iff_ne.mpr c12
          obtain rfl := Option.some.inj H
          go_wp2
          go_ret
          exact ⟨by first | rfl | (simp [errW_none, errW_some] <;> rfl) | (simp [*, errW_none, errW_some] <;> rfl), by repeat (first | (with_reducible first | exact HB.out | apply below_alloc | apply pw_below_drewN | apply below_drew1) | exact HB.out)⟩

end Go.Proofs.YtplmmoaljlnbdaaGreat.Hd
end

section
/- block.Synth: samples, windowed, of lines. -/
namespace Go.Proofs.YtplmmoaljlnbdaaGreat.Hd
open Go.RowKit Go.Shelf Go.Proofs.YtplmmoaljlnbdaaGreatW.PrintWords Go.Proofs.YtplmmoaljlnbdaaGreatW.PrintMore
set_option linter.unusedVariables false
set_option linter.unusedSimpArgs false
attribute [local go_sem] Oper.semAt_some

/-- Each number times a value, rounded. -/
def timesOf (ys vs : List Int) (b : Int) : List Int := (List.range ys.length).map fun i => roundOf (wrap64 (ys.getD i 0 * vs.getD i 0)) b
theorem timesOf_length (ys vs : List Int) (b : Int) : (timesOf ys vs b).length = ys.length := by simp [timesOf]
theorem round_k (k : Nat) (hk : 4 ≤ k) (n b : Int) (h1 : 1 ≤ b) (h2 : b ≤ 62) : fix_Round.f k n b = some (roundOf n b, errOf n b) := at_rounds (g := fun k => fix_Round.f k n b) (fun k => fix_Round.mono n b k) hk (round_some n b h1 h2)
theorem times_l0 (ys vs : List Int) (b : Int) (h1 : 1 ≤ b) (h2 : b ≤ 62) (hl : ys.length ≤ 1048576) (hv : ys.length ≤ vs.length) : ∀ (d k i : Nat) (out : List Int), ys.length - i ≤ d → d + 5 ≤ k → i ≤ ys.length → out.length = ys.length →
    (∀ j, j < i → out[j]? = some (roundOf (wrap64 (ys.getD j 0 * vs.getD j 0)) b)) → block_times.l0 k vs b out ys (ys.length : Int) (i : Int) = some (timesOf ys vs b) := by
  intro d
  induction d with
  | zero =>
    intro k i out hd hk hi ho hj
    obtain ⟨k, rfl⟩ : ∃ m, k = m + 1 := ⟨k - 1, by omega⟩
    obtain rfl : i = ys.length := by omega
    simp only [block_times.l0]
    rw [if_neg (by omega)]
    congr 1
    refine List.ext_getElem? fun j => ?_
    by_cases h : j < ys.length
    · rw [hj j h]; simp [timesOf, h]
    · rw [List.getElem?_eq_none (by omega), List.getElem?_eq_none (by rw [timesOf_length]; omega)]
  | succ d ih =>
    intro k i out hd hk hi ho hj
    obtain ⟨k, rfl⟩ : ∃ m, k = m + 1 := ⟨k - 1, by omega⟩
    by_cases hlt : i < ys.length
    · simp only [block_times.l0]
      have w1 : wrap64 ((i : Int) + 1) = ((i + 1 : Nat) : Int) := by unfold wrap64; omega
      rw [if_pos (by omega), if_pos (by omega), if_pos (by omega), if_pos (by omega), round_k k (by omega) _ _ h1 h2]
      simp only [Option.bind_some]
      rw [if_pos (by omega), w1]
      refine ih k (i + 1) _ (by omega) (by omega) (by omega) (by simp [ho]) fun j hj2 => ?_
      simp only [Int.toNat_natCast, rd]
      by_cases hji : j = i
      · subst hji
        rw [List.getElem?_set_self (by omega)]
      · rw [List.getElem?_set_ne (by omega)]
        exact hj j (by omega)
    · obtain rfl : i = ys.length := by omega
      simp only [block_times.l0]
      rw [if_neg (by omega)]
      congr 1
      refine List.ext_getElem? fun j => ?_
      by_cases h : j < ys.length
      · rw [hj j h]; simp [timesOf, h]
      · rw [List.getElem?_eq_none (by omega), List.getElem?_eq_none (by rw [timesOf_length]; omega)]
theorem times_f (ys vs : List Int) (b : Int) (h1 : 1 ≤ b) (h2 : b ≤ 62) (hl : ys.length ≤ 1048576) (hv : ys.length ≤ vs.length) : block_times.f (ys.length + 6) ys vs b = some (timesOf ys vs b) := by
  unfold block_times.f
  rw [if_pos (by omega), if_pos (by omega)]
  simp only [Int.toNat_natCast]
  exact times_l0 ys vs b h1 h2 hl hv ys.length _ 0 _ (by omega) (by omega) (by omega) (by simp) (fun j hj => absurd hj (Nat.not_lt_zero _))

/-- Numbers added to those from a place on. -/
def addGo (out : List Int) (at_ : Nat) : List Int → List Int
  | [] => out
  | x :: l => addGo (out.set at_ (wrap64 (out.getD at_ 0 + x))) (at_ + 1) l
theorem addGo_length (l : List Int) : ∀ (out : List Int) (at_ : Nat), (addGo out at_ l).length = out.length := by
  induction l with
  | nil => intro out at_; rfl
  | cons x l ih => intro out at_; rw [addGo, ih]; simp
def synthGo : List (Int × List Int) → List Int → List Int → List Int
  | [], _, out => out
  | (at_, v) :: ws, lines, out => synthGo ws (lines.drop (v.length / 2)) (addGo out at_.toNat (timesOf (inverseOf (lines.take (v.length / 2))) v 26))
def synthOf (seq was shape : Int) (lines : List Int) : List Int := synthGo (winsOf seq was shape) lines (List.replicate 512 0)
theorem synthGo_length (ws : List (Int × List Int)) : ∀ (lines out : List Int), (synthGo ws lines out).length = out.length := by
  induction ws with
  | nil => intro lines out; rfl
  | cons x ws ih => intro lines out; obtain ⟨a, v⟩ := x; rw [synthGo, ih, addGo_length]
theorem synthOf_length (seq was shape : Int) (lines : List Int) : (synthOf seq was shape lines).length = 512 := by unfold synthOf; rw [synthGo_length, List.length_replicate]
/-- What the iterator's windows have. -/
theorem wins_shape (seq was shape : Int) (hs : seq = 0 ∨ seq = 1 ∨ seq = 2 ∨ seq = 3) : ∃ m, (m = 256 ∨ m = 32) ∧ (winsOf seq was shape).length * m = 256 ∧
    ∀ k (hk : k < (winsOf seq was shape).length), (winsOf seq was shape)[k].2.length = 2 * m ∧ 0 ≤ (winsOf seq was shape)[k].1 ∧ (winsOf seq was shape)[k].1 + 2 * m ≤ 512 := by
  by_cases h2 : seq = 2
  · refine ⟨32, .inr rfl, by simp [winsOf, h2], fun k hk => ?_⟩
    have hk8 : k < 8 := by simpa [winsOf, h2] using hk
    have e : (winsOf seq was shape)[k] = ((112 + 32 * k : Int), shortWin was shape k) := by simp [winsOf, h2]
    rw [e]
    exact ⟨shortWin_length _ _ _, by show (0 : Int) ≤ 112 + 32 * k; omega, by show (112 + 32 * k : Int) + 2 * (32 : Nat) ≤ 512; omega⟩
  · refine ⟨256, .inl rfl, by simp [winsOf, h2], fun k hk => ?_⟩
    have hk1 : k = 0 := by simp [winsOf, h2] at hk; omega
    subst hk1
    have e : (winsOf seq was shape)[0] = (0, windowOf seq was shape) := by simp [winsOf, h2]
    rw [e]
    exact ⟨windowOf_length _ _ _ (by omega), by simp, by simp⟩

theorem minFold (l : List Int) : ∀ a : Int, l.foldl (fun a b => mn a b) a ≤ a ∧ ∀ x ∈ l, l.foldl (fun a b => mn a b) a ≤ x := by
  induction l with
  | nil => intro a; exact ⟨Int.le_refl _, fun x hx => by cases hx⟩
  | cons y l ih =>
    intro a
    obtain ⟨h1, h2⟩ := ih (mn a y)
    have e1 : mn a y ≤ a := by unfold mn; omega
    have e2 : mn a y ≤ y := by unfold mn; omega
    simp only [List.foldl_cons]
    refine ⟨by omega, fun x hx => ?_⟩
    rcases List.mem_cons.1 hx with rfl | hx
    · omega
    · exact h2 x hx
theorem maxFold (l : List Int) : ∀ a : Int, a ≤ l.foldl (fun a b => mx a b) a ∧ ∀ x ∈ l, x ≤ l.foldl (fun a b => mx a b) a := by
  induction l with
  | nil => intro a; exact ⟨Int.le_refl _, fun x hx => by cases hx⟩
  | cons y l ih =>
    intro a
    obtain ⟨h1, h2⟩ := ih (mx a y)
    have e1 : a ≤ mx a y := by unfold mx; omega
    have e2 : y ≤ mx a y := by unfold mx; omega
    simp only [List.foldl_cons]
    refine ⟨by omega, fun x hx => ?_⟩
    rcases List.mem_cons.1 hx with rfl | hx
    · omega
    · exact h2 x hx
theorem min_le (l : List Int) (x : Int) (hx : x ∈ l) : minOf l ≤ x := by
  cases l with
  | nil => cases hx
  | cons a l =>
    obtain ⟨h1, h2⟩ := minFold l a
    rcases List.mem_cons.1 hx with rfl | hx
    · exact h1
    · exact h2 x hx
theorem le_max (l : List Int) (x : Int) (hx : x ∈ l) : x ≤ maxOf l := by
  cases l with
  | nil => cases hx
  | cons a l =>
    obtain ⟨h1, h2⟩ := maxFold l a
    rcases List.mem_cons.1 hx with rfl | hx
    · exact h1
    · exact h2 x hx
theorem asked_zero (k : Nat) (a b c : Int) (l : List Int) (n lo hi : Int) (h : block_asked.f k a b c l n lo hi = some 0) : a ≤ 3 ∧ b ≤ 1 ∧ c ≤ 1 ∧ (l.length : Int) = n ∧ ∀ x ∈ l, lo ≤ x ∧ x ≤ hi := by
  unfold block_asked.f at h
  have key : ∀ k (f : Bool), block_asked.j0 k l n lo hi f = some 0 → f = false ∧ (l.length : Int) = n ∧ ∀ x ∈ l, lo ≤ x ∧ x ≤ hi := by
    intro k f hj
    cases k with
    | zero => simp [block_asked.j0] at hj
    | succ k =>
      simp only [block_asked.j0] at hj
      cases f with
      | true => simp at hj
      | false =>
        simp only [Bool.false_eq_true, if_false] at hj
        split at hj
        · rename_i hl
          refine ⟨rfl, hl, ?_⟩
          unfold slices_Min_int_int.f slices_Max_int_int.f at hj
          split at hj
          · simp at hj
          · split at hj
            · simp only [Option.bind_some] at hj
              split at hj
              · simp at hj
              · split at hj
                · simp at hj
                · intro x hx
                  have := min_le l x hx
                  have := le_max l x hx
                  omega
            · simp at hj
        · simp at hj
  split at h
  · have := (key k true h).1
    cases this
  · unfold block_shaped.f at h
    split at h
    · simp only [Option.bind_some] at h
      obtain ⟨h1, h2⟩ := key k _ h
      simp at h1
      exact ⟨by omega, by omega, by omega, h2⟩
    · simp only [Option.bind_some] at h
      obtain ⟨h1, h2⟩ := key k _ h
      simp at h1

def block_Synth.f (k : Nat) (a0 a1 a2 : Int) (l3 : List Int) : Option (List Int × Int) := if 0 ≤ a0 then if 0 ≤ a1 then if 0 ≤ a2 then
  (block_asked.f k a0 a1 a2 l3 256 (-268435455) 268435455).bind fun r => if r = 0 then some (synthOf a0 a1 a2 l3, 0) else some ([], r) else none else none else none

/-- What holds between two windows: lines from a place on, the sums so far. -/
def SynI (w : World) (B7 B8 B9 B11 g base m : Nat) (lines : List Int) (ws : List (Int × List Int)) (res : List Int) (k : Nat) (W : World) : Prop :=
  (∃ (A : Option Addr) (c : Nat) (out : List Int), k * m ≤ lines.length ∧ Boxed W B7 31 (.slice A (lines.drop (k * m)).length c) ∧ (lines.drop (k * m)).length ≤ c ∧ Kd.C (Kd.int .i64) w A (lines.drop (k * m)).length (lines.drop (k * m)) ∧
    out.length = 512 ∧ synthGo (ws.drop k) (lines.drop (k * m)) out = res ∧ Kd.R (Kd.int .i64) 3 W base (fun _ => True) (.slice (some ⟨g, 0, none⟩) 512 512) out) ∧
  Boxed W B11 31 (.slice (some ⟨g, 0, none⟩) 512 512) ∧ Boxed W B8 31 (.slice none 0 0) ∧ Boxed W B9 28 (.int .i64 0) ∧ Below w.heap.size w W
theorem SynI.keeps {w : World} {B7 B8 B9 B11 g base m : Nat} {lines : List Int} {ws : List (Int × List Int)} {res : List Int} {k : Nat} {W W' : World} (h : SynI w B7 B8 B9 B11 g base m lines ws res k W) (hk : KeepsC W W') (hb : Below w.heap.size w W') : SynI w B7 B8 B9 B11 g base m lines ws res k W' := by
  obtain ⟨⟨A, c, out, h1, h2, h3, h4, h5, h6, h7⟩, h8, h9, h10, _⟩ := h
  exact ⟨⟨A, c, out, h1, Boxed.keepsC h2 hk, h3, h4, h5, h6, R_keepsC h7 hk⟩, Boxed.keepsC h8 hk, Boxed.keepsC h9 hk, Boxed.keepsC h10 hk, hb⟩

set_option maxRecDepth 100000 in
set_option maxHeartbeats 2000000 in
theorem synth_ok (a0 a1 a2 : Int) (A3 : Option Addr) (c3 : Nat) (l3 : List Int) (w : World) (hr3 : Kd.C (Kd.int .i64) w A3 l3.length l3) (hc3 : l3.length ≤ c3) (k : Nat) (hs : a0 = 0 ∨ a0 = 1 ∨ a0 = 2 ∨ a0 = 3) (h1 : a1 = 0 ∨ a1 = 1) (h2 : a2 = 0 ∨ a2 = 1) (hask : block_asked.f k a0 a1 a2 l3 256 (-268435455) 268435455 = some 0) :
    Calls Tryz.prog 34 #[.int .u8 a0, .int .u8 a1, .int .u8 a2, .slice A3 l3.length c3] w fun e w' => ∃ g, e = .returned (.tuple #[.slice (some ⟨g, 0, none⟩) 512 512, .int .i64 0]) ∧ Kd.R (Kd.int .i64) 3 w' w.heap.size (fun _ => True) (.slice (some ⟨g, 0, none⟩) 512 512) (synthOf a0 a1 a2 l3) ∧ Below w.heap.size w w' := by
  refine callsIn_wide.1 (callsIn_of_wp_marks (n := 10) Tryz.func34 rfl trivial ?_)
  simp only [Tryz.ntmps34, List.size_toArray, List.length_cons, List.length_nil, Nat.reduceAdd, Nat.reduceSub, Array.replicate_succ, Array.replicate_zero, List.push_toArray, List.append_toArray, List.nil_append, List.cons_append]
  obtain ⟨i0, hi, hz0, hz1, hz2⟩ := info_parts (info3 : (Tryz.prog.info? 3).map (fun i => (i.zero, i.size, i.bytes)) = _)
  have hmk := fun W => run_make (P := Tryz.prog) W 31 3 i0 (.int .i64 0) Tryz.underlying31 hi hz0 .i64 .i64 512 512 (by omega) (by omega) (by rw [hz2]; omega) (by omega)
  have hB1 : Below w.heap.size w (((w.alloc (.cells #[.slice A3 l3.length c3] 31)).alloc (.cells #[.slice none 0 0] 31)).alloc (.cells #[.int .i64 0] 28)) := (((Below.refl _ _).alloc (Nat.le_refl _) _).alloc (by simp) _).alloc (by simp <;> omega) _
  have b7 := ((Boxed.new w 31 (.slice A3 l3.length c3)).alloc (.cells #[.slice none 0 0] 31)).alloc (.cells #[.int .i64 0] 28)
  have b8 := (Boxed.new (w.alloc (.cells #[.slice A3 l3.length c3] 31)) 31 (.slice none 0 0)).alloc (.cells #[.int .i64 0] 28)
  have b9 := Boxed.new ((w.alloc (.cells #[.slice A3 l3.length c3] 31)).alloc (.cells #[.slice none 0 0] 31)) 28 (.int .i64 0)
  simp only [World.size_alloc] at b8 b9
  have hcall := fun W hC => block_asked.calls k a0 a1 a2 A3 c3 l3 256 (-268435455) 268435455 0 W hC hc3 hask
  have HR := Aside0.mk hr3
  have HB1 := Aside0.mk hB1
  have B7 := Aside0.mk b7
  have B8 := Aside0.mk b8
  have B9 := Aside0.mk b9
  have HA := Aside0.mk hask
  have HS := Aside0.mk hs
  have H1 := Aside0.mk h1
  have H2 := Aside0.mk h2
  clear hr3 hB1 b7 b8 b9 hask hs h1 h2
  gi_wp2_with (first
    | (refine ⟨trivial, ?_⟩; gi_at_call 58; go_must (refine (callsIn_wide.2 (hcall _ (Kd.C_below HR.out HB1.out))).mono ?_; rintro e w1 ⟨rfl, hb⟩); have HK := Aside0.mk (KeepsC.of_below hb); have HB2 := Aside0.mk (below_then HB1.out HB1.out.size hb); clear hb)
    | (refine ⟨trivial, ?_⟩; gi_at_call 59; go_must (refine (callsIn_wide.2 (windows_calls _ _ _ _)).mono ?_; rintro e w2 ⟨rfl, rfl⟩)))
  have hw1 := HB2.out.size
  have B7' := ((((((Boxed.keepsC B7.out HK.out).alloc (.cells (madeCells #[.int .i64 0] 512) 3)).alloc (.cells #[.slice (some ⟨w1.heap.size, 0, none⟩) 512 512] 31)).alloc (.cells #[.int .u8 a0] 5)).alloc (.cells #[.int .u8 a1] 5)).alloc (.cells #[.int .u8 a2] 5))
  have B8' := ((((((Boxed.keepsC B8.out HK.out).alloc (.cells (madeCells #[.int .i64 0] 512) 3)).alloc (.cells #[.slice (some ⟨w1.heap.size, 0, none⟩) 512 512] 31)).alloc (.cells #[.int .u8 a0] 5)).alloc (.cells #[.int .u8 a1] 5)).alloc (.cells #[.int .u8 a2] 5))
  have B9' := ((((((Boxed.keepsC B9.out HK.out).alloc (.cells (madeCells #[.int .i64 0] 512) 3)).alloc (.cells #[.slice (some ⟨w1.heap.size, 0, none⟩) 512 512] 31)).alloc (.cells #[.int .u8 a0] 5)).alloc (.cells #[.int .u8 a1] 5)).alloc (.cells #[.int .u8 a2] 5))
  have B11 := ((((Boxed.new (w1.alloc (.cells (madeCells #[.int .i64 0] 512) 3)) 31 (.slice (some ⟨w1.heap.size, 0, none⟩) 512 512)).alloc (.cells #[.int .u8 a0] 5)).alloc (.cells #[.int .u8 a1] 5)).alloc (.cells #[.int .u8 a2] 5))
  have R0 := (Kd.R_alloc (R_made w1 w1.heap.size 3 .i64 512 (Nat.le_refl _) (by omega)) (.cells #[.slice (some ⟨w1.heap.size, 0, none⟩) 512 512] 31))
  have R0 := Kd.R_alloc (Kd.R_alloc (Kd.R_alloc R0 (.cells #[.int .u8 a0] 5)) (.cells #[.int .u8 a1] 5)) (.cells #[.int .u8 a2] 5)
  have HB3 := ((((HB2.out.alloc hw1 (.cells (madeCells #[.int .i64 0] 512) 3)).alloc (by simp; omega) (.cells #[.slice (some ⟨w1.heap.size, 0, none⟩) 512 512] 31)).alloc (by simp; omega) (.cells #[.int .u8 a0] 5)).alloc (by simp; omega) (.cells #[.int .u8 a1] 5)).alloc (by simp; omega) (.cells #[.int .u8 a2] 5)
  have Bs := ((Boxed.new ((w1.alloc (.cells (madeCells #[.int .i64 0] 512) 3)).alloc (.cells #[.slice (some ⟨w1.heap.size, 0, none⟩) 512 512] 31)) 5 (.int .u8 a0)).alloc (.cells #[.int .u8 a1] 5)).alloc (.cells #[.int .u8 a2] 5)
  have Bw := (Boxed.new (((w1.alloc (.cells (madeCells #[.int .i64 0] 512) 3)).alloc (.cells #[.slice (some ⟨w1.heap.size, 0, none⟩) 512 512] 31)).alloc (.cells #[.int .u8 a0] 5)) 5 (.int .u8 a1)).alloc (.cells #[.int .u8 a2] 5)
  have Bh := Boxed.new ((((w1.alloc (.cells (madeCells #[.int .i64 0] 512) 3)).alloc (.cells #[.slice (some ⟨w1.heap.size, 0, none⟩) 512 512] 31)).alloc (.cells #[.int .u8 a0] 5)).alloc (.cells #[.int .u8 a1] 5)) 5 (.int .u8 a2)
  simp only [World.size_alloc] at B11 Bs Bw Bh
  have hW0s : (((((w1.alloc (Obj.cells (madeCells #[Value.int IntKind.i64 0] 512) 3)).alloc (Obj.cells #[Value.slice (some { block := w1.heap.size, off := 0 }) 512 512] 31)).alloc (Obj.cells #[Value.int IntKind.u8 a0] 5)).alloc (Obj.cells #[Value.int IntKind.u8 a1] 5)).alloc (Obj.cells #[Value.int IntKind.u8 a2] 5)).heap.size = w1.heap.size + 5 := by simp
  clear hmk hcall
  generalize (((((w1.alloc (Obj.cells (madeCells #[Value.int IntKind.i64 0] 512) 3)).alloc (Obj.cells #[Value.slice (some { block := w1.heap.size, off := 0 }) 512 512] 31)).alloc (Obj.cells #[Value.int IntKind.u8 a0] 5)).alloc (Obj.cells #[Value.int IntKind.u8 a1] 5)).alloc (Obj.cells #[Value.int IntKind.u8 a2] 5)) = W0 at B7' B8' B9' B11 R0 HB3 Bs Bw Bh hW0s ⊢
  obtain ⟨m, hm, hlm, hws⟩ := wins_shape a0 a1 a2 HS.out
  obtain ⟨_, _, _, hll, hlb⟩ := asked_zero k a0 a1 a2 l3 _ _ _ HA.out
  have hll : l3.length = 256 := by omega
  have b7lt := B7.out.lt
  have b8lt := B8.out.lt
  have b9lt := B9.out.lt
  have hs3 : w.heap.size + 3 ≤ w1.heap.size := by have := HK.out.size; simp only [World.size_alloc] at this; omega
  refine wpIn_rangeIter (n := 10) (β := Int × List Int) rfl (by omega) (gf := 113) (lb := #[.pointer (some ⟨w1.heap.size + 1 + 1, 0, none⟩), .pointer (some ⟨w1.heap.size + 1 + 1 + 1, 0, none⟩), .pointer (some ⟨w1.heap.size + 1 + 1 + 1 + 1, 0, none⟩)]) rfl trivial (enters_of Tryz.func113 (by kernel_rfl) rfl)
    (windows_iter a0 a1 a2 _ _ _ W0 HS.out H1.out H2.out Bs Bw Bh) (Below.refl _ _) (fun A B h => KeepsOthers.of_grownBy (grown_of_below h none) (fun j o e => by cases e)) Kpt.trans (Kpt.book (w := W0) (Nat.zero_le _) (fun i hi => by rcases hi with rfl | rfl | rfl <;> omega)) (fun x args W h => by obtain ⟨A, c, rfl, _⟩ := h; rfl)
    (SynI w w.heap.size (w.heap.size + 1) (w.heap.size + 1 + 1) (w1.heap.size + 1) w1.heap.size w1.heap.size m l3 (winsOf a0 a1 a2) (synthOf a0 a1 a2 l3)) (fun _ _ => False)
    (fun s X Y row hs hg hr => hs.keeps (KeepsC.of_turn hg (fun r e => (hr r e).2)) ((ownFrom_below (β := Unit) (B := W0.heap.size) (Nat.le_refl _) (by omega)) () X Y row hs.2.2.2.2 hg hr)) (fun _ _ _ _ _ h _ _ => h)
    (fun k A B h hs => h.keeps (KeepsC.of_below hs) (below_then h.2.2.2.2 h.2.2.2.2.size hs)) (fun _ _ _ h _ => h)
    ⟨⟨A3, c3, List.replicate 512 0, by simp, by simpa using B7', by simpa using hc3, by simpa using HR.out, by rw [List.length_replicate], by simp [synthOf], R0⟩, B11, B8', B9', HB3⟩ ?round ?done ?stop
  case round =>
    intro l k args W hk hl hr hI hrep
    obtain ⟨A5, c5, rfl, hlc, hC5⟩ := hrep
    obtain ⟨hv2, hat0, hat1⟩ := hws k hk
    have hdk : (winsOf a0 a1 a2).drop k = (winsOf a0 a1 a2)[k] :: (winsOf a0 a1 a2).drop (k + 1) := List.drop_eq_getElem_cons hk
    obtain ⟨x, hx⟩ : ∃ x, (winsOf a0 a1 a2)[k] = x := ⟨_, rfl⟩
    rw [hx] at hlc hC5 hv2 hat0 hat1 hdk ⊢
    clear hx
    obtain ⟨at_, vs⟩ := x
    dsimp only at hlc hC5 hv2 hat0 hat1 hdk ⊢
    obtain ⟨q, rfl⟩ := Int.eq_ofNat_of_zero_le hat0
    have hk2 : (k + 1) * m ≤ 256 := by rw [← hlm]; exact Nat.mul_le_mul_right _ hk
    have hkm : (k + 1) * m = k * m + m := Nat.succ_mul _ _
    have HV2 := Aside0.mk hv2
    have HLL := Aside0.mk hll
    clear hv2 hll
    gi_wp2
    refine ⟨KeepsFrom.refl _ _, Kpt.refl _ _ _, fun r' => ?_⟩
    obtain ⟨rl, hrl⟩ := hr
    have kW := KeepsC.putObj (.loop r') hrl rfl
    have hI2 := hI.keeps kW (belowK_b (w := w) (Nat.le_refl _) W l _ _ (by omega) hrl rfl rfl |> fun h => hI.2.2.2.2.trans h)
    have hCv := C_keepsC 0 hC5 kW
    have hszW : W0.heap.size ≤ (W.putObj l (.loop r')).heap.size := by have := (Array.getElem?_eq_some_iff.1 hrl).1; simp; omega
    clear hI hC5 kW hrl
    generalize W.putObj l (.loop r') = W2 at hI2 hCv hszW ⊢
    obtain ⟨⟨A, c, out, hkl, c7, hlc7, hCl, hol, hres, hRo⟩, c11, c8, c9, hbl⟩ := hI2
    obtain ⟨ls, hls⟩ : ∃ ls, ls = l3.drop (k * m) := ⟨_, rfl⟩
    have hv2 := HV2.out
    have hll := HLL.out
    have hlsl : ls.length = 256 - k * m := by rw [hls, List.length_drop, hll]
    have hlsm : m ≤ ls.length := by omega
    have hlsn : l3.drop ((k + 1) * m) = ls.drop m := by rw [hls, List.drop_drop, hkm]
    have hlsb : ∀ x ∈ ls, -268435455 ≤ x ∧ x ≤ 268435455 := fun x hx => hlb x (List.mem_of_mem_drop (hls ▸ hx))
    rw [← hls] at c7 hlc7 hCl hres
    rw [hdk, synthGo] at hres
    have hv3 : vs.length / 2 = m := by omega
    rw [hv3] at hres
    obtain ⟨ts, hts⟩ : ∃ ts, ts = ls.take m := ⟨_, rfl⟩
    have htl : ts.length = m := by rw [hts, List.length_take]; omega
    obtain ⟨us, hus⟩ : ∃ us, us = ls.drop m := ⟨_, rfl⟩
    have hul : us.length = ls.length - m := by rw [hus, List.length_drop]
    obtain ⟨hcut1, hcr1, hcc1⟩ := print_take_of (P := Tryz.prog) (Value.int .i64) 0 31 3 .i64 Tryz.underlying31 hi hz1 A c ls (m : Int) (by omega) (by omega) hlc7
    obtain ⟨A9, hcut2, hcr2, hcc2⟩ := print_drop_of (P := Tryz.prog) (Value.int .i64) 0 31 3 .i64 Tryz.underlying31 hi hz1 A c ls (m : Int) (by omega) (by omega) hlc7
    simp only [Int.toNat_natCast] at hcut1 hcr1 hcc1 hcut2 hcr2 hcc2
    rw [← hts] at hcut1 hcr1 hcc1 hres
    rw [← hus] at hcut2 hcr2 hcc2 hres
    have hCt : Kd.C (Kd.int .i64) w A ts.length ts := Kd.C_of_reads (d := 0) (hcr1 w (Kd.reads_of_C (d := 0) hCl))
    have hCu : Kd.C (Kd.int .i64) w A9 us.length us := Kd.C_of_reads (d := 0) (hcr2 w (Kd.reads_of_C (d := 0) hCl))
    have hfar : ts.any farLine = false := by
      rw [List.any_eq_false]
      intro y hy
      have := hlsb y (List.mem_of_mem_take (hts ▸ hy))
      unfold farLine
      simp; omega
    have hinv : mdct_Inverse.f ts = some (inverseOf ts, 0) := by
      unfold mdct_Inverse.f
      rw [if_pos (by omega), if_neg (by rw [hfar]; simp)]
    obtain ⟨ys, hys⟩ : ∃ ys, ys = inverseOf ts := ⟨_, rfl⟩
    have hyl : ys.length = 2 * m := by rw [hys]; simp [inverseOf, htl]
    rw [← hys] at hinv hres
    obtain ⟨zs, hzs⟩ : ∃ zs, zs = timesOf ys vs 26 := ⟨_, rfl⟩
    have hzl : zs.length = 2 * m := by rw [hzs, timesOf_length, hyl]
    have htm := times_f ys vs 26 (by omega) (by omega) (by omega) (by omega)
    rw [← hzs] at htm hres
    have hcalli := fun W hC => mdct_Inverse.calls A c ts ys 0 W hC hcc1 hinv
    have hcallt := fun A' c' W hC hc' hC2 => block_times.calls (ys.length + 6) A' c' ys A5 c5 vs 26 zs W hC hc' hC2 hlc htm
    have HRND := Aside0.mk (Rnd.start (B := W0.heap.size) (S := S3 (w1.heap.size + 1 + 1) (w1.heap.size + 1 + 1 + 1) (w1.heap.size + 1 + 1 + 1 + 1)) (W := W2) hbl)
    have HSl : Aside0 (∀ k, S3 (w1.heap.size + 1 + 1) (w1.heap.size + 1 + 1 + 1) (w1.heap.size + 1 + 1 + 1 + 1) k → k < W2.heap.size) := ⟨fun i hi => by rcases hi with rfl | rfl | rfl <;> omega⟩
    have HC7 := Aside0.mk c7
    have HC8 := Aside0.mk c8
    have HC9 := Aside0.mk c9
    have HC11 := Aside0.mk c11
    have HRO := Aside0.mk hRo
    have HCV := Aside0.mk hCv
    have HCT := Aside0.mk hCt
    have HCU := Aside0.mk hCu
    have HRES := Aside0.mk hres
    have HKM := Aside0.mk hk2
    have HLSN : Aside0 (l3.drop ((k + 1) * m) = us) := ⟨by rw [hlsn, hus]⟩
    have HOL := Aside0.mk hol
    have hnw : w.heap.size ≤ W2.heap.size := hbl.size
    have d7 := c7.cell
    have f7 := c7.frozen
    have hlv : (m : Int) ≤ ls.length := by omega
    have hlv2 : (ls.length : Int) ≤ c := by omega
    have hq : (vs.length : Int) / 2 = (m : Int) := by omega
    have hm256 : m ≤ 256 := by omega
    have hm32 : 32 ≤ m := by omega
    have HM := Aside0.mk hm
    have HYL := Aside0.mk hyl
    have HZL := Aside0.mk hzl
    have HTL := Aside0.mk htl
    have HUL := Aside0.mk hul
    have hz512 : zs.length ≤ 512 := by omega
    have hqz : q + zs.length ≤ 512 := by omega
    clear hws hdk hlm hlb hv3 hlsl hkl hlsb hfar hinv htm hbl hcr1 hcr2 hCl hls hlsn hts hus hys hzs hol hres hRo hCv hCt hCu hkm hk2 hv2 hll hm hyl hzl htl hul
    gi_wp2_with (first
      | (refine ⟨trivial, ?_⟩; gi_at_call 60; go_must (refine (CallsIn.inRound l (callsIn_wide.2 (hcalli W2 (Kd.C_below HCT.out HRND.out.bl)))).mono ?_; rintro e w3 ⟨v3, rfl, ho3, hb3⟩); obtain ⟨A6, c6, rfl⟩ := Kd.R_slice ho3; have HO3 := Aside0.mk ho3; have HRND3 := Aside0.mk (HRND.out.call hnw HSl.out hb3); have K3 := Aside0.mk (KeepsC.of_below hb3); have d73 := cell_keepsC K3.out d7; have f73 := (Boxed.keepsC HC7.out K3.out).frozen; clear ho3 hb3)
      | (refine ⟨trivial, ?_⟩; gi_at_call 61; go_must (have B73 := Boxed.keepsC HC7.out K3.out; have hO4 := R_farB HO3.out (p := ⟨w.heap.size, 0, none⟩) (by have := HC7.out.lt; exact this) (.slice A9 us.length (c - m)); have hV4 := C_setBox (C_keepsC 0 HCV.out K3.out) B73 (.slice A9 us.length (c - m)); have HRND4 := Aside0.mk (HRND3.out.store (p := ⟨w.heap.size, 0, none⟩) (Nat.le_refl _) (fun hS => by rcases hS with h | h | h <;> simp at h <;> omega) (.slice A9 us.length (c - m))); have B74 := Aside0.mk (B73.set (.slice A9 us.length (c - m))); have B84 := Aside0.mk ((Boxed.keepsC HC8.out K3.out).other (B' := w.heap.size) (by omega) (.slice A9 us.length (c - m))); have B94 := Aside0.mk ((Boxed.keepsC HC9.out K3.out).other (B' := w.heap.size) (by omega) (.slice A9 us.length (c - m))); have B114 := Aside0.mk ((Boxed.keepsC HC11.out K3.out).other (B' := w.heap.size) (by omega) (.slice A9 us.length (c - m))); have RO4 := Aside0.mk (R_farB (R_keepsC HRO.out K3.out) (p := ⟨w.heap.size, 0, none⟩) (by show w.heap.size < w1.heap.size; omega) (.slice A9 us.length (c - m))); refine (CallsIn.inRound l (callsIn_wide.2 (hcallt A6 c6 _ (Kd.R_reads' hO4).2.2 (Kd.R_reads' hO4).2.1 hV4))).mono ?_; rintro e w5 ⟨v5, rfl, ho5, hb5⟩); rw [World.size_setCell] at ho5; obtain ⟨A7, c7, rfl⟩ := Kd.R_slice ho5; have HO5 := Aside0.mk ho5; have HRND5 := Aside0.mk (HRND4.out.call hnw HSl.out hb5); have K5 := Aside0.mk (KeepsC.of_below hb5); clear ho5 hb5 hO4 hV4 B73))
    have C75 := Aside0.mk (Boxed.keepsC B74.out K5.out)
    have C85 := Aside0.mk (Boxed.keepsC B84.out K5.out)
    have C95 := Aside0.mk (Boxed.keepsC B94.out K5.out)
    have C115 := Aside0.mk (Boxed.keepsC B114.out K5.out)
    have RO5 := Aside0.mk (R_keepsC RO4.out K5.out)
    have hs33 := HRND3.out.kf.size
    clear B74 B84 B94 B114 RO4 K5 K3 d73 f73 d7 f7 HRND HRND3 HRND4 HC7 HC8 HC9 HC11 HRO HO3
    gi_loopw [54] (fun i wr => ∃ (j : Nat) (ou : List Int), i = .int .i64 (j : Int) ∧ j ≤ zs.length ∧ Aside0 (ou.length = 512 ∧ addGo ou (q + j) (zs.drop j) = addGo out q zs) ∧ Aside0 (Kd.R (Kd.int .i64) 3 wr w1.heap.size (fun _ => True) (.slice (some ⟨w1.heap.size, 0, none⟩) 512 512) ou) ∧ Aside0 (Kd.R (Kd.int .i64) 3 wr w3.heap.size (fun _ => True) (.slice A7 zs.length c7) zs) ∧
        Aside0 (Boxed wr w.heap.size 31 (.slice A9 us.length (c - m)) ∧ Boxed wr (w.heap.size + 1) 31 (.slice none 0 0) ∧ Boxed wr (w.heap.size + 1 + 1) 28 (.int .i64 0) ∧ Boxed wr (w1.heap.size + 1) 31 (.slice (some ⟨w1.heap.size, 0, none⟩) 512 512)) ∧
        Aside0 (Rnd w.heap.size W0.heap.size (S3 (w1.heap.size + 1 + 1) (w1.heap.size + 1 + 1 + 1) (w1.heap.size + 1 + 1 + 1 + 1)) w W2 wr))
      (fun i _ => zs.length - (intOf i).toNat)
    case atStart => exact ⟨0, out, rfl, Nat.zero_le _, ⟨HOL.out, by simp⟩, RO5, HO5, ⟨C75.out, C85.out, C95.out, C115.out⟩, HRND5⟩
    case round =>
      clear C75 C85 C95 C115 RO5 HO5 HRND5
      obtain ⟨j, ou, rfl, hj, HA2, HRo, HRz, HBx, HRn⟩ := hrel
      by_cases hlt : j < zs.length
      · obtain ⟨ad, rfl, hcell⟩ := C_at (Kd.R_reads' HRz.out).2.2 j hlt
        have hx : zs.getD j 0 = zs[j] := by simp [hlt]
        rw [hx] at hcell
        obtain ⟨hst, hfr⟩ := R_cellN HRo.out HA2.out.1 (q + j) (by omega)
        have e11 := HBx.out.2.2.2.cell
        gi_wp2
        have hgd : ou[q + j]?.getD 0 = ou.getD (q + j) 0 := (List.getD_eq_getElem?_getD ..).symm
        refine ⟨⟨j + 1, ou.set (q + j) (wrap64 (ou.getD (q + j) 0 + zs[j])), by simp, by omega, ⟨by rw [List.length_set]; exact HA2.out.1, ?_⟩, ⟨?_⟩, ⟨R_farB HRz.out (by show w1.heap.size < w3.heap.size; omega) _⟩, ⟨blk_far HBx.out.1 (by show w.heap.size ≠ w1.heap.size; omega) _, blk_far HBx.out.2.1 (by show w.heap.size + 1 ≠ w1.heap.size; omega) _, blk_far HBx.out.2.2.1 (by show w.heap.size + 1 + 1 ≠ w1.heap.size; omega) _, blk_far HBx.out.2.2.2 (by show w1.heap.size + 1 ≠ w1.heap.size; omega) _⟩, ⟨HRn.out.store (by show w.heap.size ≤ w1.heap.size; omega) (fun hS => by rcases hS with h | h | h <;> simp at h <;> omega) _⟩⟩, by simp [intOf]; omega⟩
        · rw [← HA2.out.2, List.drop_eq_getElem_cons hlt, addGo]
          rfl
        · rw [hgd]
          exact R_putN HRo.out HA2.out.1 (q + j) _
      · obtain rfl : j = zs.length := by omega
        have hou : ou = addGo out q zs := by have := HA2.out.2; rw [List.drop_length] at this; exact this
        gi_wp2
        refine ⟨HRn.out.kf, HRn.out.kp, ⟨A9, c - m, ou, ?_, ?_, ?_, ?_, HA2.out.1, ?_, HRo.out⟩, HBx.out.2.2.2, HBx.out.2.1, HBx.out.2.2.1, HRn.out.bl⟩
        · have := HKM.out; have := HLL.out; omega
        · rw [HLSN.out]; exact HBx.out.1
        · rw [HLSN.out]; exact hcc2
        · rw [HLSN.out]; exact HCU.out
        · rw [HLSN.out, hou]
          have := HRES.out
          simpa using this
  case done =>
    intro D W hD hI hKD
    obtain ⟨⟨A, c, out, _, _, _, _, hol, hres, hRo⟩, c11, c8, c9, hbl⟩ := hI
    have e11 := c11.cell
    have e8 := c8.cell
    have g8 := c8.frozen
    have e9 := (c9.other (B' := w.heap.size + 1) (by omega) (.slice (some ⟨w1.heap.size, 0, none⟩) 512 512)).cell
    have g9 := (c9.other (B' := w.heap.size + 1) (by omega) (.slice (some ⟨w1.heap.size, 0, none⟩) 512 512)).frozen
    have hout : out = synthOf a0 a1 a2 l3 := by
      have h1 : (winsOf a0 a1 a2).drop (winsOf a0 a1 a2).length = [] := List.drop_length
      rw [h1] at hres
      exact hres
    rw [hout] at hRo
    clear hout hres hol hlm hll hws
    have c9' := c9.other (B' := w.heap.size + 1) (by omega) (.slice (some ⟨w1.heap.size, 0, none⟩) 512 512)
    have C8 := Aside0.mk c8
    have C9 := Aside0.mk c9'
    have HBL := Aside0.mk hbl
    have HRO := Aside0.mk hRo
    clear c8 c9 c9' hbl hRo
    gi_wp2
    have hK2 := setCell_heap_other (B := w.heap.size + 1 + 1) (.int .i64 0) (setCell_heap_other (B := w.heap.size + 1) (.slice (some ⟨w1.heap.size, 0, none⟩) 512 512) hKD (by omega)) (by omega)
    refine ⟨by simp, .inl ⟨_, _, rfl, run_takeDeferred hK2, ?_⟩⟩
    have d1 := (boxed_putObj (D := D) ((C8.out.set (.slice (some ⟨w1.heap.size, 0, none⟩) 512 512)).other (B' := w.heap.size + 1 + 1) (by omega) (.int .i64 0)) (.deferred none) (by omega)).cell
    have d2 := (boxed_putObj (D := D) (C9.out.set (.int .i64 0)) (.deferred none) (by omega)).cell
    refine ⟨_, results_cells2 rfl _ _ ⟨w.heap.size + 1, 0, none⟩ ⟨w.heap.size + 1 + 1, 0, none⟩ (.slice (some ⟨w1.heap.size, 0, none⟩) 512 512) (.int .i64 0) _ _ rfl rfl Tryz.underlying31 rfl Tryz.underlying28 rfl d1 d2, w1.heap.size, rfl, ?_, ?_⟩
    · exact Kd.R_lower (R_putObj (R_farB (R_farB HRO.out (p := ⟨w.heap.size + 1, 0, none⟩) (by show w.heap.size + 1 < w1.heap.size; omega) _) (p := ⟨w.heap.size + 1 + 1, 0, none⟩) (by show w.heap.size + 1 + 1 < w1.heap.size; omega) _) _ hK2 rfl) (by omega)
    · exact ((HBL.out.setCell (p := ⟨w.heap.size + 1, 0, none⟩) (by simp) _).setCell (p := ⟨w.heap.size + 1 + 1, 0, none⟩) (by simp; omega) _).trans (belowK_b (w := w) (Nat.le_refl _) _ D _ _ (by omega) hK2 rfl rfl)
  case stop =>
    intro D c W hD h hKD
    exact h.elim

set_option maxRecDepth 100000 in
set_option maxHeartbeats 2000000 in
theorem synth_err (a0 a1 a2 : Int) (A3 : Option Addr) (c3 : Nat) (l3 : List Int) (w : World) (hr3 : Kd.C (Kd.int .i64) w A3 l3.length l3) (hc3 : l3.length ≤ c3) (k : Nat) (r : Int) (hask : block_asked.f k a0 a1 a2 l3 256 (-268435455) 268435455 = some r) (hr0 : r ≠ 0) :
    Calls Tryz.prog 34 #[.int .u8 a0, .int .u8 a1, .int .u8 a2, .slice A3 l3.length c3] w fun e w' => e = .returned (.tuple #[.slice none 0 0, .int .i64 r]) ∧ Below w.heap.size w w' := by
  have hB1 : Below w.heap.size w (((w.alloc (.cells #[.slice A3 l3.length c3] 31)).alloc (.cells #[.slice none 0 0] 31)).alloc (.cells #[.int .i64 0] 28)) := (((Below.refl _ _).alloc (Nat.le_refl _) _).alloc (by simp) _).alloc (by simp <;> omega) _
  have b7 := ((Boxed.new w 31 (.slice A3 l3.length c3)).alloc (.cells #[.slice none 0 0] 31)).alloc (.cells #[.int .i64 0] 28)
  have b8 := (Boxed.new (w.alloc (.cells #[.slice A3 l3.length c3] 31)) 31 (.slice none 0 0)).alloc (.cells #[.int .i64 0] 28)
  have b9 := Boxed.new ((w.alloc (.cells #[.slice A3 l3.length c3] 31)).alloc (.cells #[.slice none 0 0] 31)) 28 (.int .i64 0)
  simp only [World.size_alloc] at b8 b9
  have hcall := block_asked.calls k a0 a1 a2 A3 c3 l3 256 (-268435455) 268435455 r _ (Kd.C_below hr3 hB1) hc3 hask
  have t1 : (r != 0) = true := by simpa using hr0
  have HB1 := Aside0.mk hB1
  have B8 := Aside0.mk b8
  have B9 := Aside0.mk b9
  clear hr3 hB1 b8 b9 hask hr0
  go_enter Tryz.func34, Tryz.ntmps34
  go_wp2_with (go_at_call 58; go_must (refine hcall.mono ?_; rintro e w1 ⟨rfl, hb⟩); have c8 := Boxed.keepsC B8.out (KeepsC.of_below hb); have c9 := (Boxed.keepsC B9.out (KeepsC.of_below hb)).other (B' := w.heap.size + 1) (by omega) (.slice none 0 0); have e8 := c8.cell; have g8 := c8.frozen; have e9 := c9.cell; have g9 := c9.frozen; have C8 := Aside0.mk c8; have C9 := Aside0.mk c9; have HB2 := Aside0.mk (below_then HB1.out HB1.out.size hb); clear hb c8 c9)
  refine bodyPost_ret (results_cells2 rfl _ _ ⟨w.heap.size + 1, 0, none⟩ ⟨w.heap.size + 1 + 1, 0, none⟩ (.slice none 0 0) (.int .i64 r) _ _ rfl rfl Tryz.underlying31 rfl Tryz.underlying28 rfl ?_ ?_) rfl ⟨rfl, ?_⟩
  · exact ((C8.out.set (.slice none 0 0)).other (B' := w.heap.size + 1 + 1) (by omega) (.int .i64 r)).cell
  · exact (C9.out.set (.int .i64 r)).cell
  · exact (HB2.out.setCell (p := ⟨w.heap.size + 1, 0, none⟩) (by simp) _).setCell (p := ⟨w.heap.size + 1 + 1, 0, none⟩) (by simp; omega) _

theorem block_Synth.calls (k : Nat) (a0 a1 a2 : Int) (A3 : Option Addr) (c3 : Nat) (l3 : List Int) (r1 : List Int) (r2 : Int) (w : World) (hr3 : Kd.C (Kd.int .i64) w A3 l3.length l3) (hc3 : l3.length ≤ c3) (h : block_Synth.f k a0 a1 a2 l3 = some (r1, r2)) :
    Calls Tryz.prog 34 #[.int .u8 a0, .int .u8 a1, .int .u8 a2, .slice A3 l3.length c3] w fun e w' => ∃ v0_ : Value, e = .returned (.tuple #[v0_, .int .i64 r2]) ∧ Kd.R (Kd.int .i64) 3 w' w.heap.size (fun _ => True) v0_ r1 ∧ Below w.heap.size w w' := by
  unfold block_Synth.f at h
  split at h
  · split at h
    · split at h
      · cases e : block_asked.f k a0 a1 a2 l3 256 (-268435455) 268435455 with
        | none => rw [e] at h; cases h
        | some r =>
          rw [e] at h
          simp only [Option.bind_some] at h
          split at h
          · rename_i hr
            subst hr
            simp only [Option.some.injEq, Prod.mk.injEq] at h
            obtain ⟨rfl, rfl⟩ := h
            obtain ⟨h1, h2, h3, _, _⟩ := asked_zero k a0 a1 a2 l3 _ _ _ e
            exact (synth_ok a0 a1 a2 A3 c3 l3 w hr3 hc3 k (by omega) (by omega) (by omega) e).mono fun e w' ⟨g, he, ho, hb⟩ => ⟨_, he, ho, hb⟩
          · rename_i hr
            simp only [Option.some.injEq, Prod.mk.injEq] at h
            obtain ⟨rfl, rfl⟩ := h
            exact (synth_err a0 a1 a2 A3 c3 l3 w hr3 hc3 k _ e hr).mono fun e w' ⟨he, hb⟩ => ⟨_, he, Kd.R_nil _ _ _ _ _, hb⟩
      · cases h
    · cases h
  · cases h
theorem block_asked.mono' (a0 a1 a2 : Int) (l3 : List Int) (a4 a5 a6 : Int) (k : Nat) : LeO (block_asked.f k a0 a1 a2 l3 a4 a5 a6) (block_asked.f (k + 1) a0 a1 a2 l3 a4 a5 a6) := by apply block_asked.mono
theorem block_Synth.mono (a0 a1 a2 : Int) (l3 : List Int) (k : Nat) : LeO (block_Synth.f k a0 a1 a2 l3) (block_Synth.f (k + 1) a0 a1 a2 l3) := by
  unfold block_Synth.f
  exact LeO.ite (LeO.ite (LeO.ite (LeO.bind (block_asked.mono' a0 a1 a2 l3 _ _ _ k) fun _ => LeO.refl _) (LeO.refl _)) (LeO.refl _)) (LeO.refl _)
end Go.Proofs.YtplmmoaljlnbdaaGreat.Hd
end

section
/- Go's slices at ints, in the printed form: Clone, Repeat. -/
namespace Go.Proofs.YtplmmoaljlnbdaaGreat.Hd
open Go.RowKit Go.Shelf Go.Proofs.YtplmmoaljlnbdaaGreatW.PrintWords Go.Proofs.YtplmmoaljlnbdaaGreatW.PrintMore
set_option linter.unusedVariables false
set_option linter.unusedSimpArgs false

def slices_Clone_int_int.f (l : List Int) : Option (List Int) := if l.length ≤ 1048576 then some l else none
theorem slices_Clone_int_int.calls (A0 : Option Addr) (c0 : Nat) (l0 : List Int) (r1 : List Int) (w : World) (hr0 : Kd.C (Kd.int .i64) w A0 l0.length l0) (hc0 : l0.length ≤ c0) (h : slices_Clone_int_int.f l0 = some r1) :
    Calls Tryz.prog 38 #[.slice A0 l0.length c0] w fun e w' => ∃ v0_ : Value, e = .returned v0_ ∧ Kd.R (Kd.int .i64) 3 w' w.heap.size (fun _ => True) v0_ r1 ∧ Below w.heap.size w w' := by
  unfold slices_Clone_int_int.f at h
  split at h
  · simp only [Option.some.injEq] at h
    subst h
    exact cloneInt_calls A0 c0 l0 w hr0 hc0 (by assumption)
  · cases h

def slices_Repeat_int_int.f (l : List Int) (n : Int) : Option (List Int) := match l with
  | [x] => if 0 ≤ n then if n ≤ 4096 then some (List.replicate n.toNat x) else none else none
  | _ => none
theorem slices_Repeat_int_int.calls (A0 : Option Addr) (c0 : Nat) (l0 : List Int) (a1 : Int) (r1 : List Int) (w : World) (hr0 : Kd.C (Kd.int .i64) w A0 l0.length l0) (hc0 : l0.length ≤ c0) (h : slices_Repeat_int_int.f l0 a1 = some r1) :
    Calls Tryz.prog 86 #[.slice A0 l0.length c0, .int .i64 a1] w fun e w' => ∃ v0_ : Value, e = .returned v0_ ∧ Kd.R (Kd.int .i64) 3 w' w.heap.size (fun _ => True) v0_ r1 ∧ Below w.heap.size w w' := by
  unfold slices_Repeat_int_int.f at h
  split at h
  · rename_i x
    split at h
    · split at h
      · simp only [Option.some.injEq] at h
        subst h
        obtain ⟨n, rfl⟩ := Int.eq_ofNat_of_zero_le (by assumption : 0 ≤ a1)
        obtain ⟨ad, rfl, hc⟩ := C_at hr0 0 (by simp)
        have hz : ad.add 0 = ad := by simp [go_sem]
        rw [hz] at hc
        exact (repeat1_calls x n ad c0 w (by omega) hc).mono fun e w' ⟨g, he, ho, hb⟩ => ⟨_, he, ho, hb⟩
      · cases h
    · cases h
  · cases h
end Go.Proofs.YtplmmoaljlnbdaaGreat.Hd
end

section
/- lap.Check. -/
namespace Go.Proofs.YtplmmoaljlnbdaaGreat.Hd
open Go.RowKit Go.Shelf Go.Proofs.YtplmmoaljlnbdaaGreatW.PrintWords Go.Proofs.YtplmmoaljlnbdaaGreatW.PrintMore
set_option linter.unusedVariables false
set_option linter.unusedSimpArgs false

def farLap (x : Int) : Bool := decide (x < -1099511627776 ∨ 1099511627776 < x)
def lap_Check.f (l : List Int) (s h : Int) : Option Int := some (if l.length ≠ 256 ∨ l.any farLap = true ∨ 3 < s ∨ 1 < h then 8 else 0)

set_option maxRecDepth 100000 in
set_option maxHeartbeats 1000000 in
theorem lap_Check.calls (A0 : Option Addr) (c0 : Nat) (l0 : List Int) (a1 a2 : Int) (r1 : Int) (w : World) (hr0 : Kd.C (Kd.int .i64) w A0 l0.length l0) (hc0 : l0.length ≤ c0) (h : lap_Check.f l0 a1 a2 = some r1) :
    Calls Tryz.prog 28 #[.agg #[.slice A0 l0.length c0, .int .u8 a1, .int .u8 a2]] w fun e w' => e = .returned (.int .i64 r1) ∧ Below w.heap.size w w' := by
  have HR0 := Aside0.mk hr0
  clear hr0
  unfold lap_Check.f at h
  simp only [Option.some.injEq] at h
  have hu := Tryz.underlying49
  go_enter Tryz.func28, Tryz.ntmps28
  by_cases h1 : l0.length = 256
  · have t1 : ((l0.length : Int) != 256) = false := by simp; omega
    have H1 := Aside0.mk h1
    clear h1
    have hw1 : ∀ j u, #[Value.slice A0 l0.length c0, .int .u8 a1, .int .u8 a2][j]? = some u → (w.alloc (.cells #[.slice A0 l0.length c0, .int .u8 a1, .int .u8 a2] 49)).cell? ⟨w.heap.size, j, none⟩ = some u := fun j u e => by
      simp only [World.cell?, heap_alloc_new]
      exact e
    have hcall := containsFunc_calls 47 #[] (enters_of Tryz.func47 (by kernel_rfl) rfl) farLap A0 c0 l0 _ (Kd.C_alloc HR0.out (.cells #[.slice A0 l0.length c0, .int .u8 a1, .int .u8 a2] 49)) (by have := H1.out; omega) (fun W x _ _ => lapFar_calls x W)
    cases hp : l0.any farLap
    · by_cases h2 : 3 < a1
      · go_wp2_with (go_at_call 48; refine hcall.mono ?_; rintro e w' ⟨rfl, hb⟩; have c1 := (hb.cell (p := ⟨w.heap.size, 1, none⟩) (by simp)).trans (hw1 1 _ rfl); have c2 := (hb.cell (p := ⟨w.heap.size, 2, none⟩) (by simp)).trans (hw1 2 _ rfl); have HB := Aside0.mk (((Below.refl _ _).alloc (Nat.le_refl _) _).trans (hb.mono (by simp))); clear hb; rw [hp])
        go_ret
        refine ⟨?_, HB.out⟩
        rw [if_pos (by simp [h2])] at h
        subst h
        rfl
      · by_cases h3 : 1 < a2
        · go_wp2_with (go_at_call 48; refine hcall.mono ?_; rintro e w' ⟨rfl, hb⟩; have c1 := (hb.cell (p := ⟨w.heap.size, 1, none⟩) (by simp)).trans (hw1 1 _ rfl); have c2 := (hb.cell (p := ⟨w.heap.size, 2, none⟩) (by simp)).trans (hw1 2 _ rfl); have HB := Aside0.mk (((Below.refl _ _).alloc (Nat.le_refl _) _).trans (hb.mono (by simp))); clear hb; rw [hp])
          go_ret
          refine ⟨?_, HB.out⟩
          rw [if_pos (by simp [h3])] at h
          subst h
          rfl
        · go_wp2_with (go_at_call 48; refine hcall.mono ?_; rintro e w' ⟨rfl, hb⟩; have c1 := (hb.cell (p := ⟨w.heap.size, 1, none⟩) (by simp)).trans (hw1 1 _ rfl); have c2 := (hb.cell (p := ⟨w.heap.size, 2, none⟩) (by simp)).trans (hw1 2 _ rfl); have HB := Aside0.mk (((Below.refl _ _).alloc (Nat.le_refl _) _).trans (hb.mono (by simp))); clear hb; rw [hp])
          go_ret
          refine ⟨?_, HB.out⟩
          rw [if_neg (by simp [hp, H1.out]; omega)] at h
          subst h
          rfl
    · go_wp2_with (go_at_call 48; refine hcall.mono ?_; rintro e w' ⟨rfl, hb⟩; have c1 := (hb.cell (p := ⟨w.heap.size, 1, none⟩) (by simp)).trans (hw1 1 _ rfl); have c2 := (hb.cell (p := ⟨w.heap.size, 2, none⟩) (by simp)).trans (hw1 2 _ rfl); have HB := Aside0.mk (((Below.refl _ _).alloc (Nat.le_refl _) _).trans (hb.mono (by simp))); clear hb; rw [hp])
      go_ret
      refine ⟨?_, HB.out⟩
      rw [if_pos (by simp [hp])] at h
      subst h
      rfl
  · have t1 : ((l0.length : Int) != 256) = true := by simp; omega
    go_wp2
    go_ret
    refine ⟨?_, (Below.refl _ _).alloc (Nat.le_refl _) _⟩
    rw [if_pos (by simp [h1])] at h
    subst h
    rfl
end Go.Proofs.YtplmmoaljlnbdaaGreat.Hd
end

section
-- Written by a program of this session (wip/hprint.py), out of the translation's own print.
namespace Go.Proofs.YtplmmoaljlnbdaaGreat.Hd
open Go.RowKit Go.Proofs.YtplmmoaljlnbdaaGreatW.PrintWords Go.Proofs.YtplmmoaljlnbdaaGreatW.PrintLast Go.Proofs.YtplmmoaljlnbdaaGreatW.PrintMore Go.Proofs.YtplmmoaljlnbdaaGreat.Hd
attribute [local go_sem] max2_int min2_int max_two min_two max_three min_three max_four min_four   -- for this text's walks alone
set_option linter.unusedVariables false
set_option linter.unusedSimpArgs false

/-! ### fix_Clip: function 37 -/
def fix_Clip.f (a0 : Int) (a1 : Int) : Option (Int × Int) := if a1 < 1 then (some (0, 2)) else (if a1 > 62 then (some (0, 2)) else (if 0 ≤ (wrap64 (a1 - 1)) then (some (mn (mx a0 (wrap64 ((wrap64 (-(wrap64 ((shl .i64 1 (wrap64 (a1 - 1))) - 1)))) - 1))) (wrap64 ((shl .i64 1 (wrap64 (a1 - 1))) - 1)), 0)) else (none)))
set_option maxHeartbeats 8000000 in
set_option maxRecDepth 100000 in
theorem fix_Clip.calls (a0 : Int) (a1 : Int) (r1 : Int) (r2 : Int) (w : World) (h : fix_Clip.f a0 a1 = some (r1, r2)) :
    Calls Tryz.prog 37 #[.int .i64 a0, .int .i64 a1] w fun e w' => e = .returned (.tuple #[.int .i64 r1, .int .i64 r2]) ∧ Below w.heap.size w w' := by
  have HB := Aside0.mk (Below.refl w.heap.size w)
  have H : (if a1 < 1 then (some (0, 2)) else (if a1 > 62 then (some (0, 2)) else (if 0 ≤ (wrap64 (a1 - 1)) then (some (mn (mx a0 (wrap64 ((wrap64 (-(wrap64 ((shl .i64 1 (wrap64 (a1 - 1))) - 1)))) - 1))) (wrap64 ((shl .i64 1 (wrap64 (a1 - 1))) - 1)), 0)) else (none)))) = some (r1, r2) := h
  clear h
  by_cases c3 : a1 < 1
  · rw [if_pos c3] at H
    have c3b0 : decide (a1 < 1) = true := decide_eq_true c3
    clear c3
    simp only [Option.some.injEq, Prod.mk.injEq] at H
    obtain ⟨rfl, rfl⟩ := H
    go_enter Tryz.func37, Tryz.ntmps37
    go_wp2
    go_ret2
    exact ⟨by first | rfl | (simp [errW_none, errW_some] <;> rfl) | (simp [*, errW_none, errW_some] <;> rfl), by repeat (first | (with_reducible first | exact HB.out | apply below_alloc | apply pw_below_drewN | apply below_drew1) | exact HB.out)⟩
  · rw [if_neg c3] at H
    have c3b0 : decide (a1 < 1) = false := decide_eq_false c3
    clear c3
    by_cases c4 : a1 > 62
    · rw [if_pos c4] at H
      have c4b0 : decide (62 < a1) = true := decide_eq_true c4
      clear c4
      simp only [Option.some.injEq, Prod.mk.injEq] at H
      obtain ⟨rfl, rfl⟩ := H
      go_enter Tryz.func37, Tryz.ntmps37
      go_wp2
      go_ret2
      exact ⟨by first | rfl | (simp [errW_none, errW_some] <;> rfl) | (simp [*, errW_none, errW_some] <;> rfl), by repeat (first | (with_reducible first | exact HB.out | apply below_alloc | apply pw_below_drewN | apply below_drew1) | exact HB.out)⟩
    · rw [if_neg c4] at H
      have c4b0 : decide (62 < a1) = false := decide_eq_false c4
      clear c4
      obtain ⟨ji5, hji5⟩ : ∃ j_ : Int, (wrap64 (a1 - 1)) = j_ := ⟨_, rfl⟩
      replace H : (if 0 ≤ (ji5) then (some (mn (mx a0 (wrap64 ((wrap64 (-(wrap64 ((shl .i64 1 (ji5)) - 1)))) - 1))) (wrap64 ((shl .i64 1 (ji5)) - 1)), 0)) else (none)) = some (r1, r2) := by first | (rw [hji5] at H; exact H) | (simp only [hji5] at H ⊢; exact H)
      have hji5w : (IntKind.i64.wrap (a1 - 1)) = ji5 := (i64_w _).trans hji5
      by_cases c6 : 0 ≤ (ji5)
      · rw [if_pos c6] at H
        have c6b0 := eq_true c6
        have c6b1 : decide (0 ≤ (ji5)) = true := decide_eq_true c6
        clear c6
        obtain ⟨ji7, hji7⟩ : ∃ j_ : Int, (shl .i64 1 (ji5)) = j_ := ⟨_, rfl⟩
        replace H : (some (mn (mx a0 (wrap64 ((wrap64 (-(wrap64 ((ji7) - 1)))) - 1))) (wrap64 ((ji7) - 1)), 0)) = some (r1, r2) := by first | (rw [hji7] at H; exact H) | (simp only [hji7] at H ⊢; exact H)
        have hji7_ : (IntKind.i64.wrap (1 * 2 ^ min (ji5).toNat 64)) = ji7 := hji7
        have hji7z : (ji5) ≤ 64 → (IntKind.i64.wrap (1 * 2 ^ (ji5).toNat)) = ji7 := shl_small hji7
        have hji7u : (IntKind.i64.wrap (2 ^ min (ji5).toNat 64)) = ji7 := by have h_ := hji7_; rw [Int.one_mul] at h_; exact h_
        have hji7v : (ji5) ≤ 64 → (IntKind.i64.wrap (2 ^ (ji5).toNat)) = ji7 := fun hle_ => by have h_ := hji7z hle_; rw [Int.one_mul] at h_; exact h_
        have hji7y : (wrap64 (1 * 2 ^ min (ji5).toNat 64)) = ji7 := (i64_w _).symm.trans hji7_
        have hji7x : (ji5) ≤ 64 → (wrap64 (1 * 2 ^ (ji5).toNat)) = ji7 := fun h_ => (i64_w _).symm.trans (hji7z h_)
        obtain ⟨ji8, hji8⟩ : ∃ j_ : Int, (mx a0 (wrap64 ((wrap64 (-(wrap64 ((ji7) - 1)))) - 1))) = j_ := ⟨_, rfl⟩
        replace H : (some (mn (ji8) (wrap64 ((ji7) - 1)), 0)) = some (r1, r2) := by first | (rw [hji8] at H; exact H) | (simp only [hji8] at H ⊢; exact H)
        have hji8_ : (if a0 < (wrap64 ((wrap64 (-(wrap64 ((ji7) - 1)))) - 1)) then (wrap64 ((wrap64 (-(wrap64 ((ji7) - 1)))) - 1)) else a0) = ji8 := hji8
        obtain ⟨ji9, hji9⟩ : ∃ j_ : Int, (mn (ji8) (wrap64 ((ji7) - 1))) = j_ := ⟨_, rfl⟩
        replace H : (some (ji9, 0)) = some (r1, r2) := by first | (rw [hji9] at H; exact H) | (simp only [hji9] at H ⊢; exact H)
        have hji9_ : (if (wrap64 ((ji7) - 1)) < (ji8) then (wrap64 ((ji7) - 1)) else (ji8)) = ji9 := hji9
        simp only [Option.some.injEq, Prod.mk.injEq] at H
        obtain ⟨rfl, rfl⟩ := H
        go_enter Tryz.func37, Tryz.ntmps37
        go_wp2
        go_ret2
        exact ⟨by first | rfl | (simp [errW_none, errW_some] <;> rfl) | (simp only [← hji5, ← hji7, ← hji8, ← hji9]; first | rfl | (simp [errW_none, errW_some] <;> rfl)) | (simp [*, errW_none, errW_some] <;> rfl), by repeat (first | (with_reducible first | exact HB.out | apply below_alloc | apply pw_below_drewN | apply below_drew1) | exact HB.out)⟩
      · rw [if_neg c6] at H
        exact absurd H (by simp)

end Go.Proofs.YtplmmoaljlnbdaaGreat.Hd
end
