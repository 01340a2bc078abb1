-- Written by a program of this session (wip/hprint.py), out of the translation's own print.
import Derived.Test.YtccnicigldjcdaaPBitsx0
import Derived.Test.YtccnicigldjcdaaPBitsx15
import Derived.Test.YtccnicigldjcdaaPBitsx16
import Derived.Test.YtccnicigldjcdaaPBitsx17
namespace Go.Proofs.Ytccnicigldjcdaa.PBits
open Go.RowKit Go.Proofs.YtccnicigldjcdaaW.PrintWords Go.Proofs.YtccnicigldjcdaaW.PrintLast Go.Proofs.YtccnicigldjcdaaW.PrintMore Go.Proofs.Ytccnicigldjcdaa.H
attribute [local go_sem] max2_int min2_int max_two min_two max_three min_three max_four min_four   -- for this text's walks alone
set_option linter.unusedVariables false
set_option linter.unusedSimpArgs false

/-! ### reedpipelaw01_BitsPuts: function 4 -/
mutual
def reedpipelaw01_BitsPuts.j0 : Nat → List Int → ByteArray → List Int → Bool → Option (Bool)
  | 0, _, _, _, _ => none
  | k + 1, x0, x9, x10, x20 => reedpipelaw01_BitsPuts.l0 k x0 x9 x10 x20 0
def reedpipelaw01_BitsPuts.l0 : Nat → List Int → ByteArray → List Int → Bool → Int → Option (Bool)
  | 0, _, _, _, _, _ => none
  | k + 1, x0, x9, x10, x20, x21 => if x21 < (x10.length : Int) then (if 0 ≤ x21 then (reedpipelaw01_BitsPuts.l0 k x0 x9 (x10.set (x21 : Int).toNat (((rd x10 x21) + 1) % 256)) x20 (wrap64 (x21 + 1))) else (none)) else (if x20 = true then (some ((strOfNums x0).toList == x9.toList)) else (some false))
end
def reedpipelaw01_BitsPuts.f (k : Nat) (l0 : List Int) (a1 : Int) (a2 : Int) (a3 : Int) : Option (Bool) := if (l0.length : Int) > 10000 then (some true) else ((bits_Put.f l0 a1 a3).bind fun bt164 => ((reedpiperef01_Put.f k l0 a1 a3).bind fun bt168 => ((bits_Get.f k l0 a2 a3).bind fun bt172 => ((reedpiperef01_Get.f k l0 a2 a3).bind fun bt175 => (if (strOfNums bt164.1).toList = (strOfNums bt168.1).toList then (if bt164.2 = bt168.2 then (if bt172.1 = bt175.1 then (if bt172.2.1 = bt175.2.1 then (reedpipelaw01_BitsPuts.j0 k l0 (strOfNums l0) bt164.1 (bt172.2.2 == bt175.2.2)) else (reedpipelaw01_BitsPuts.j0 k l0 (strOfNums l0) bt164.1 false)) else (reedpipelaw01_BitsPuts.j0 k l0 (strOfNums l0) bt164.1 false)) else (reedpipelaw01_BitsPuts.j0 k l0 (strOfNums l0) bt164.1 false)) else (reedpipelaw01_BitsPuts.j0 k l0 (strOfNums l0) bt164.1 false))))))
theorem reedpipelaw01_BitsPuts.mono_l : ∀ k, (∀ y0 y1 y2 y3, LeO (reedpipelaw01_BitsPuts.j0 k y0 y1 y2 y3) (reedpipelaw01_BitsPuts.j0 (k + 1) y0 y1 y2 y3)) ∧ (∀ y0 y1 y2 y3 y4, LeO (reedpipelaw01_BitsPuts.l0 k y0 y1 y2 y3 y4) (reedpipelaw01_BitsPuts.l0 (k + 1) y0 y1 y2 y3 y4))
  | 0 => ⟨fun _ _ _ _ r h => by simp [reedpipelaw01_BitsPuts.j0] at h, fun _ _ _ _ _ r h => by simp [reedpipelaw01_BitsPuts.l0] at h⟩
  | k + 1 => by
    obtain ⟨ih0, ih1⟩ := reedpipelaw01_BitsPuts.mono_l k
    refine ⟨?_, ?_⟩
    · intro y0 y1 y2 y3
      unfold reedpipelaw01_BitsPuts.j0
      repeat' first
      | (with_reducible exact ih0 _ _ _ _)
      | (with_reducible exact ih1 _ _ _ _ _)
      | (with_reducible exact bits_Get.mono _ _ _ _)
      | (with_reducible exact reedpiperef01_Get.mono _ _ _ _)
      | (with_reducible exact reedpiperef01_Put.mono _ _ _ _)
      | (with_reducible exact LeO.refl _)
      | (with_reducible exact LeO.none _)
      | (with_reducible refine LeO.ite ?_ ?_)
      | (with_reducible refine LeO.bind ?_ (fun _ => ?_))
      | exact ih0 _ _ _ _
      | exact ih1 _ _ _ _ _
      | exact bits_Get.mono _ _ _ _
      | exact reedpiperef01_Get.mono _ _ _ _
      | exact reedpiperef01_Put.mono _ _ _ _
      | exact LeO.none _
      | refine LeO.ite ?_ ?_
      | refine LeO.bind ?_ (fun _ => ?_)
    · intro y0 y1 y2 y3 y4
      unfold reedpipelaw01_BitsPuts.l0
      repeat' first
      | (with_reducible exact ih0 _ _ _ _)
      | (with_reducible exact ih1 _ _ _ _ _)
      | (with_reducible exact bits_Get.mono _ _ _ _)
      | (with_reducible exact reedpiperef01_Get.mono _ _ _ _)
      | (with_reducible exact reedpiperef01_Put.mono _ _ _ _)
      | (with_reducible exact LeO.refl _)
      | (with_reducible exact LeO.none _)
      | (with_reducible refine LeO.ite ?_ ?_)
      | (with_reducible refine LeO.bind ?_ (fun _ => ?_))
      | exact ih0 _ _ _ _
      | exact ih1 _ _ _ _ _
      | exact bits_Get.mono _ _ _ _
      | exact reedpiperef01_Get.mono _ _ _ _
      | exact reedpiperef01_Put.mono _ _ _ _
      | exact LeO.none _
      | refine LeO.ite ?_ ?_
      | refine LeO.bind ?_ (fun _ => ?_)
theorem reedpipelaw01_BitsPuts.mono : ∀ a0 a1 a2 a3 k, LeO (reedpipelaw01_BitsPuts.f k a0 a1 a2 a3) (reedpipelaw01_BitsPuts.f (k + 1) a0 a1 a2 a3) := by
  intro a0 a1 a2 a3 k
  obtain ⟨ih0, ih1⟩ := reedpipelaw01_BitsPuts.mono_l k
  unfold reedpipelaw01_BitsPuts.f
  repeat' first
      | (with_reducible exact ih0 _ _ _ _)
      | (with_reducible exact ih1 _ _ _ _ _)
      | (with_reducible exact bits_Get.mono _ _ _ _)
      | (with_reducible exact reedpiperef01_Get.mono _ _ _ _)
      | (with_reducible exact reedpiperef01_Put.mono _ _ _ _)
      | (with_reducible exact LeO.refl _)
      | (with_reducible exact LeO.none _)
      | (with_reducible refine LeO.ite ?_ ?_)
      | (with_reducible refine LeO.bind ?_ (fun _ => ?_))
      | exact ih0 _ _ _ _
      | exact ih1 _ _ _ _ _
      | exact bits_Get.mono _ _ _ _
      | exact reedpiperef01_Get.mono _ _ _ _
      | exact reedpiperef01_Put.mono _ _ _ _
      | exact LeO.none _
      | refine LeO.ite ?_ ?_
      | refine LeO.bind ?_ (fun _ => ?_)
set_option maxHeartbeats 8000000 in
set_option maxRecDepth 100000 in
theorem reedpipelaw01_BitsPuts.calls (k : Nat) (A0 : Option Addr) (c0 : Nat) (l0 : List Int) (a1 : Int) (a2 : Int) (a3 : Int) (r : Bool) (w : World) (hr0 : Kd.C (Kd.int .u8) w A0 l0.length l0) (hc0 : l0.length ≤ c0) (h : reedpipelaw01_BitsPuts.f k l0 a1 a2 a3 = some r) :
    Calls Try.prog 4 #[.slice A0 l0.length c0, .int .i64 a1, .int .i64 a2, .int .i64 a3] w fun e w' => e = .returned (.bool r) ∧ Below w.heap.size w w' := by
  have HR0 := Aside0.mk hr0
  have HC0 := Aside0.mk hc0
  clear hr0 hc0
  have HB := Aside0.mk (Below.refl w.heap.size w)
  have H : (if (l0.length : Int) > 10000 then (some true) else ((bits_Put.f l0 a1 a3).bind fun bt164 => ((reedpiperef01_Put.f k l0 a1 a3).bind fun bt168 => ((bits_Get.f k l0 a2 a3).bind fun bt172 => ((reedpiperef01_Get.f k l0 a2 a3).bind fun bt175 => (if (strOfNums bt164.1).toList = (strOfNums bt168.1).toList then (if bt164.2 = bt168.2 then (if bt172.1 = bt175.1 then (if bt172.2.1 = bt175.2.1 then (reedpipelaw01_BitsPuts.j0 k l0 (strOfNums l0) bt164.1 (bt172.2.2 == bt175.2.2)) else (reedpipelaw01_BitsPuts.j0 k l0 (strOfNums l0) bt164.1 false)) else (reedpipelaw01_BitsPuts.j0 k l0 (strOfNums l0) bt164.1 false)) else (reedpipelaw01_BitsPuts.j0 k l0 (strOfNums l0) bt164.1 false)) else (reedpipelaw01_BitsPuts.j0 k l0 (strOfNums l0) bt164.1 false))))))) = some r := h
  clear h
  by_cases c5 : (l0.length : Int) > 10000
  · rw [if_pos c5] at H
    have c5b0 : decide (10000 < (l0.length : Int)) = true := decide_eq_true c5
    have c5b1 : decide (10000 < l0.length) = true := decide_eq_true (by omega)
    clear c5
    obtain rfl := Option.some.inj H
    go_enter Try.func4, Try.ntmps4
    go_wp2
    go_ret
    exact ⟨by first | rfl | (simp [errW_none, errW_some] <;> rfl) | (simp [*, errW_none, errW_some] <;> rfl), by repeat (first | (with_reducible first | exact HB.out | apply below_alloc | apply pw_below_drewN | apply below_drew1) | exact HB.out)⟩
  · rw [if_neg c5] at H
    have c5b0 : decide (10000 < (l0.length : Int)) = false := decide_eq_false c5
    have c5b1 : decide (10000 < l0.length) = false := decide_eq_false (by omega)
    clear c5
    replace H := Option.bind_eq_some_iff.mp H
    obtain ⟨⟨t164, t165⟩, A60, H⟩ := H
    replace H : ((reedpiperef01_Put.f k l0 a1 a3).bind fun bt168 => ((bits_Get.f k l0 a2 a3).bind fun bt172 => ((reedpiperef01_Get.f k l0 a2 a3).bind fun bt175 => (if (strOfNums t164).toList = (strOfNums bt168.1).toList then (if t165 = bt168.2 then (if bt172.1 = bt175.1 then (if bt172.2.1 = bt175.2.1 then (reedpipelaw01_BitsPuts.j0 k l0 (strOfNums l0) t164 (bt172.2.2 == bt175.2.2)) else (reedpipelaw01_BitsPuts.j0 k l0 (strOfNums l0) t164 false)) else (reedpipelaw01_BitsPuts.j0 k l0 (strOfNums l0) t164 false)) else (reedpipelaw01_BitsPuts.j0 k l0 (strOfNums l0) t164 false)) else (reedpipelaw01_BitsPuts.j0 k l0 (strOfNums l0) t164 false))))) = some r := H
    have A6 := Aside0.mk A60
    clear A60
    replace H := Option.bind_eq_some_iff.mp H
    obtain ⟨⟨t168, t169⟩, A70, H⟩ := H
    replace H : ((bits_Get.f k l0 a2 a3).bind fun bt172 => ((reedpiperef01_Get.f k l0 a2 a3).bind fun bt175 => (if (strOfNums t164).toList = (strOfNums t168).toList then (if t165 = t169 then (if bt172.1 = bt175.1 then (if bt172.2.1 = bt175.2.1 then (reedpipelaw01_BitsPuts.j0 k l0 (strOfNums l0) t164 (bt172.2.2 == bt175.2.2)) else (reedpipelaw01_BitsPuts.j0 k l0 (strOfNums l0) t164 false)) else (reedpipelaw01_BitsPuts.j0 k l0 (strOfNums l0) t164 false)) else (reedpipelaw01_BitsPuts.j0 k l0 (strOfNums l0) t164 false)) else (reedpipelaw01_BitsPuts.j0 k l0 (strOfNums l0) t164 false)))) = some r := H
    have A7 := Aside0.mk A70
    clear A70
    replace H := Option.bind_eq_some_iff.mp H
    obtain ⟨⟨t172, t173, t174⟩, A80, H⟩ := H
    replace H : ((reedpiperef01_Get.f k l0 a2 a3).bind fun bt175 => (if (strOfNums t164).toList = (strOfNums t168).toList then (if t165 = t169 then (if t172 = bt175.1 then (if t173 = bt175.2.1 then (reedpipelaw01_BitsPuts.j0 k l0 (strOfNums l0) t164 (t174 == bt175.2.2)) else (reedpipelaw01_BitsPuts.j0 k l0 (strOfNums l0) t164 false)) else (reedpipelaw01_BitsPuts.j0 k l0 (strOfNums l0) t164 false)) else (reedpipelaw01_BitsPuts.j0 k l0 (strOfNums l0) t164 false)) else (reedpipelaw01_BitsPuts.j0 k l0 (strOfNums l0) t164 false))) = some r := H
    have A8 := Aside0.mk A80
    clear A80
    replace H := Option.bind_eq_some_iff.mp H
    obtain ⟨⟨t175, t176, t177⟩, A90, H⟩ := H
    replace H : (if (strOfNums t164).toList = (strOfNums t168).toList then (if t165 = t169 then (if t172 = t175 then (if t173 = t176 then (reedpipelaw01_BitsPuts.j0 k l0 (strOfNums l0) t164 (t174 == t177)) else (reedpipelaw01_BitsPuts.j0 k l0 (strOfNums l0) t164 false)) else (reedpipelaw01_BitsPuts.j0 k l0 (strOfNums l0) t164 false)) else (reedpipelaw01_BitsPuts.j0 k l0 (strOfNums l0) t164 false)) else (reedpipelaw01_BitsPuts.j0 k l0 (strOfNums l0) t164 false)) = some r := H
    have A9 := Aside0.mk A90
    clear A90
    have HC10 := Aside0.mk H
    clear H
    have hcv11 := Kd.C_string (P := Try.prog) (A := A0) (c := c0) Try.underlying22 Try.underlying5 Try.underlying9 HR0.out
    have hcv12 := fun (nq_ : Nat) => Kd.C_string (P := Try.prog) (A := A0) (c := c0) Try.underlying22 Try.underlying5 Try.underlying9 (Kd.C_drewN (HR0.out) nq_)
    go_enter Try.func4, Try.ntmps4
    go_upto_region 8 with (first | ((with_reducible refine gate_callee (f := 13) rfl ?_); refine goesL_ (some 31) rfl rfl Try.func13 (by kernel_rfl) rfl #[.slice A0 l0.length c0, .int .i64 a1, .int .i64 a3] rfl (by (try simp only [List.map_toArray, List.map_cons, List.map_nil]); first | done | rfl | (simp only [List.length_drop, List.length_take]; rfl)) ?_; (with_reducible refine (bits_Put.calls _ _ l0 a1 a3 t164 t165 _ ?side1 ?side2 A6.out).mono ?_); (case side1 => repeat (first | exact HR0.out | (with_reducible refine Kd.C_alloc ?_ _) | (with_reducible refine Kd.C_drewN ?_ _) | (with_reducible refine Kd.C_drew ?_))); (case side2 => exact HC0.out); rintro e w13 ⟨v166, rfl, ho0, hb⟩; refine ⟨_, rfl, ?_⟩; have n0_ := Aside0.mk (Kd.R_lower ho0 (below_size (by repeat (first | (with_reducible first | exact HB.out | apply below_alloc | apply pw_below_drewN | apply below_drew1) | exact HB.out)))); have n1_ := Aside0.mk (below_step (by repeat (first | (with_reducible first | exact HB.out | apply below_alloc | apply pw_below_drewN | apply below_drew1) | exact HB.out)) hb); clear HB; have HO167 := n0_; have HB := n1_; clear n0_ n1_; (try clear hb); (try clear hb2); (try clear hk); (try clear hi); (try clear ho0)) | ((with_reducible refine gate_callee (f := 14) rfl ?_); refine goesL_ (some 38) rfl rfl Try.func14 (by kernel_rfl) rfl #[.slice A0 l0.length c0, .int .i64 a1, .int .i64 a3] rfl (by (try simp only [List.map_toArray, List.map_cons, List.map_nil]); first | done | rfl | (simp only [List.length_drop, List.length_take]; rfl)) ?_; (with_reducible refine (reedpiperef01_Put.calls k _ _ l0 a1 a3 t168 t169 _ ?side1 ?side2 A7.out).mono ?_); (case side1 => repeat (first | exact (Kd.C_below HR0.out HB.out) | (with_reducible refine Kd.C_alloc ?_ _) | (with_reducible refine Kd.C_drewN ?_ _) | (with_reducible refine Kd.C_drew ?_))); (case side2 => exact HC0.out); rintro e w14 ⟨v170, rfl, ho0, hb⟩; refine ⟨_, rfl, ?_⟩; have n0_ := Aside0.mk (Kd.R_elder' (by (with_reducible repeat (first | apply Kd.R_alloc | apply Kd.R_drewN | apply Kd.R_drew)); exact HO167.out) (Kd.R_base ho0) hb); have n1_ := Aside0.mk (Kd.R_lower (Kd.R_new' ho0 (Kd.R_lt (by (with_reducible repeat (first | apply Kd.R_alloc | apply Kd.R_drewN | apply Kd.R_drew)); exact HO167.out))) (below_size (by repeat (first | (with_reducible first | exact HB.out | apply below_alloc | apply pw_below_drewN | apply below_drew1) | exact HB.out)))); have n2_ := Aside0.mk (below_step (by repeat (first | (with_reducible first | exact HB.out | apply below_alloc | apply pw_below_drewN | apply below_drew1) | exact HB.out)) hb); clear HO167; clear HB; have HO167 := n0_; have HO171 := n1_; have HB := n2_; clear n0_ n1_ n2_; (try clear hb); (try clear hb2); (try clear hk); (try clear hi); (try clear ho0)) | ((with_reducible refine gate_callee (f := 15) rfl ?_); refine goesL_ (some 45) rfl rfl Try.func15 (by kernel_rfl) rfl #[.slice A0 l0.length c0, .int .i64 a2, .int .i64 a3] rfl (by (try simp only [List.map_toArray, List.map_cons, List.map_nil]); first | done | rfl | (simp only [List.length_drop, List.length_take]; rfl)) ?_; (with_reducible refine (bits_Get.calls k _ _ l0 a2 a3 t172 t173 t174 _ ?side1 ?side2 A8.out).mono ?_); (case side1 => repeat (first | exact (Kd.C_below HR0.out HB.out) | (with_reducible refine Kd.C_alloc ?_ _) | (with_reducible refine Kd.C_drewN ?_ _) | (with_reducible refine Kd.C_drew ?_))); (case side2 => exact HC0.out); rintro e w' ⟨rfl, ⟨nd, rfl⟩⟩; refine ⟨_, rfl, ?_⟩) | ((with_reducible refine gate_callee (f := 16) rfl ?_); refine goesL_ (some 53) rfl rfl Try.func16 (by kernel_rfl) rfl #[.slice A0 l0.length c0, .int .i64 a2, .int .i64 a3] rfl (by (try simp only [List.map_toArray, List.map_cons, List.map_nil]); first | done | rfl | (simp only [List.length_drop, List.length_take]; rfl)) ?_; (with_reducible refine (reedpiperef01_Get.calls k _ _ l0 a2 a3 t175 t176 t177 _ ?side1 ?side2 A9.out).mono ?_); (case side1 => repeat (first | exact (Kd.C_below HR0.out (by repeat (first | (with_reducible first | exact HB.out | apply below_alloc | apply pw_below_drewN | apply below_drew1) | exact HB.out))) | (with_reducible refine Kd.C_alloc ?_ _) | (with_reducible refine Kd.C_drewN ?_ _) | (with_reducible refine Kd.C_drew ?_))); (case side2 => exact HC0.out); rintro e w' ⟨rfl, ⟨nd, rfl⟩⟩; refine ⟨_, rfl, ?_⟩))
    (try simp only [Act.put, List.setIfInBounds_toArray, List.set_cons_zero, List.set_cons_succ])
    go_cut [20] (fun v20 wc => ∃ (kq : Nat) (x20_9 : Bool), v20 = .bool x20_9 ∧ Aside0 (reedpipelaw01_BitsPuts.j0 kq l0 (strOfNums l0) t164 x20_9 = some r) ∧ Aside0 (kq ≤ k) ∧ Aside0 (Kd.R (Kd.int .u8) 5 wc w.heap.size (fun _ => True) v166 t164) ∧ Aside0 (Below w.heap.size w wc))
    case first =>
      have H := HC10.out
      clear HC10
      by_cases c15 : (strOfNums t164).toList = (strOfNums t168).toList
      · rw [if_pos c15] at H
        have c15b0 : ((strOfNums t164).toList == (strOfNums t168).toList) = true := beq_iff_eq.mpr c15
        have c15b1 : ((strOfNums t164).toList != (strOfNums t168).toList) = false := bne_eq_false_iff_eq.mpr c15
        clear c15
        (first | rw [c15b0] | (simp only [i64_w, i32_w]; rw [c15b0]) | skip)
        by_cases c16 : t165 = t169
        · rw [if_pos c16] at H
          have c16b0 : (t165 == t169) = true := beq_iff_eq.mpr c16
          have c16b1 : (t165 != t169) = false := bne_eq_false_iff_eq.mpr c16
          clear c16
          by_cases c17 : t172 = t175
          · rw [if_pos c17] at H
            have c17b0 : (t172 == t175) = true := beq_iff_eq.mpr c17
            have c17b1 : (t172 != t175) = false := bne_eq_false_iff_eq.mpr c17
            clear c17
            by_cases c18 : t173 = t176
            · rw [if_pos c18] at H
              have c18b0 : (t173 == t176) = true := beq_iff_eq.mpr c18
              have c18b1 : (t173 != t176) = false := bne_eq_false_iff_eq.mpr c18
              clear c18
              have H' := Aside0.mk H
              clear H
              have hcv19 := own_string (P := Try.prog) Try.underlying22 Try.underlying5 Try.underlying9 (Kd.own_of_R HO167.out)
              have hcv20 := fun (nq_ : Nat) => own_string (P := Try.prog) Try.underlying22 Try.underlying5 Try.underlying9 (Kd.own_of_R (Kd.R_drewN HO167.out nq_))
              have hcv21 := own_string (P := Try.prog) Try.underlying22 Try.underlying5 Try.underlying9 (Kd.own_of_R HO171.out)
              have hcv22 := fun (nq_ : Nat) => own_string (P := Try.prog) Try.underlying22 Try.underlying5 Try.underlying9 (Kd.own_of_R (Kd.R_drewN HO171.out nq_))
              go_wp2
              go_meet
              case rel => exact ⟨_, ((t174 == t177)), (by first | rfl | (simp; done) | (simp [*]; done)), H', ⟨by first | omega | exact Nat.le_refl _⟩, ⟨by (with_reducible repeat (first | apply Kd.R_alloc | apply Kd.R_drewN | apply Kd.R_drew)); exact Kd.R_mono HO167.out (fun _ hk => trivial)⟩, ⟨by repeat (first | (with_reducible first | exact HB.out | apply below_alloc | apply pw_below_drewN | apply below_drew1) | exact HB.out)⟩⟩
            · rw [if_neg c18] at H
              have c18b0 : (t173 == t176) = false := beq_eq_false_iff_ne.mpr c18
              have c18b1 : (t173 != t176) = true := bne_iff_ne.mpr c18
              have H' := Aside0.mk H
              clear H
              have hcv23 := own_string (P := Try.prog) Try.underlying22 Try.underlying5 Try.underlying9 (Kd.own_of_R HO167.out)
              have hcv24 := fun (nq_ : Nat) => own_string (P := Try.prog) Try.underlying22 Try.underlying5 Try.underlying9 (Kd.own_of_R (Kd.R_drewN HO167.out nq_))
              have hcv25 := own_string (P := Try.prog) Try.underlying22 Try.underlying5 Try.underlying9 (Kd.own_of_R HO171.out)
              have hcv26 := fun (nq_ : Nat) => own_string (P := Try.prog) Try.underlying22 Try.underlying5 Try.underlying9 (Kd.own_of_R (Kd.R_drewN HO171.out nq_))
              go_wp2
              go_meet
              case rel => exact ⟨_, (false), (by first | rfl | (simp; done) | (simp [*]; done)), H', ⟨by first | omega | exact Nat.le_refl _⟩, ⟨by (with_reducible repeat (first | apply Kd.R_alloc | apply Kd.R_drewN | apply Kd.R_drew)); exact Kd.R_mono HO167.out (fun _ hk => trivial)⟩, ⟨by repeat (first | (with_reducible first | exact HB.out | apply below_alloc | apply pw_below_drewN | apply below_drew1) | exact HB.out)⟩⟩
          · rw [if_neg c17] at H
            have c17b0 : (t172 == t175) = false := beq_eq_false_iff_ne.mpr c17
            have c17b1 : (t172 != t175) = true := bne_iff_ne.mpr c17
            have H' := Aside0.mk H
            clear H
            have hcv27 := own_string (P := Try.prog) Try.underlying22 Try.underlying5 Try.underlying9 (Kd.own_of_R HO167.out)
            have hcv28 := fun (nq_ : Nat) => own_string (P := Try.prog) Try.underlying22 Try.underlying5 Try.underlying9 (Kd.own_of_R (Kd.R_drewN HO167.out nq_))
            have hcv29 := own_string (P := Try.prog) Try.underlying22 Try.underlying5 Try.underlying9 (Kd.own_of_R HO171.out)
            have hcv30 := fun (nq_ : Nat) => own_string (P := Try.prog) Try.underlying22 Try.underlying5 Try.underlying9 (Kd.own_of_R (Kd.R_drewN HO171.out nq_))
            go_wp2
            go_meet
            case rel => exact ⟨_, (false), (by first | rfl | (simp; done) | (simp [*]; done)), H', ⟨by first | omega | exact Nat.le_refl _⟩, ⟨by (with_reducible repeat (first | apply Kd.R_alloc | apply Kd.R_drewN | apply Kd.R_drew)); exact Kd.R_mono HO167.out (fun _ hk => trivial)⟩, ⟨by repeat (first | (with_reducible first | exact HB.out | apply below_alloc | apply pw_below_drewN | apply below_drew1) | exact HB.out)⟩⟩
        · rw [if_neg c16] at H
          have c16b0 : (t165 == t169) = false := beq_eq_false_iff_ne.mpr c16
          have c16b1 : (t165 != t169) = true := bne_iff_ne.mpr c16
          have H' := Aside0.mk H
          clear H
          have hcv31 := own_string (P := Try.prog) Try.underlying22 Try.underlying5 Try.underlying9 (Kd.own_of_R HO167.out)
          have hcv32 := fun (nq_ : Nat) => own_string (P := Try.prog) Try.underlying22 Try.underlying5 Try.underlying9 (Kd.own_of_R (Kd.R_drewN HO167.out nq_))
          have hcv33 := own_string (P := Try.prog) Try.underlying22 Try.underlying5 Try.underlying9 (Kd.own_of_R HO171.out)
          have hcv34 := fun (nq_ : Nat) => own_string (P := Try.prog) Try.underlying22 Try.underlying5 Try.underlying9 (Kd.own_of_R (Kd.R_drewN HO171.out nq_))
          go_wp2
          go_meet
          case rel => exact ⟨_, (false), (by first | rfl | (simp; done) | (simp [*]; done)), H', ⟨by first | omega | exact Nat.le_refl _⟩, ⟨by (with_reducible repeat (first | apply Kd.R_alloc | apply Kd.R_drewN | apply Kd.R_drew)); exact Kd.R_mono HO167.out (fun _ hk => trivial)⟩, ⟨by repeat (first | (with_reducible first | exact HB.out | apply below_alloc | apply pw_below_drewN | apply below_drew1) | exact HB.out)⟩⟩
      · rw [if_neg c15] at H
        have c15b0 : ((strOfNums t164).toList == (strOfNums t168).toList) = false := beq_eq_false_iff_ne.mpr c15
        have c15b1 : ((strOfNums t164).toList != (strOfNums t168).toList) = true := bne_iff_ne.mpr c15
        (first | rw [c15b0] | (simp only [i64_w, i32_w]; rw [c15b0]) | skip)
        have H' := Aside0.mk H
        clear H
        have hcv35 := own_string (P := Try.prog) Try.underlying22 Try.underlying5 Try.underlying9 (Kd.own_of_R HO167.out)
        have hcv36 := fun (nq_ : Nat) => own_string (P := Try.prog) Try.underlying22 Try.underlying5 Try.underlying9 (Kd.own_of_R (Kd.R_drewN HO167.out nq_))
        have hcv37 := own_string (P := Try.prog) Try.underlying22 Try.underlying5 Try.underlying9 (Kd.own_of_R HO171.out)
        have hcv38 := fun (nq_ : Nat) => own_string (P := Try.prog) Try.underlying22 Try.underlying5 Try.underlying9 (Kd.own_of_R (Kd.R_drewN HO171.out nq_))
        go_wp2
        go_meet
        case rel => exact ⟨_, (false), (by first | rfl | (simp; done) | (simp [*]; done)), H', ⟨by first | omega | exact Nat.le_refl _⟩, ⟨by (with_reducible repeat (first | apply Kd.R_alloc | apply Kd.R_drewN | apply Kd.R_drew)); exact Kd.R_mono HO167.out (fun _ hk => trivial)⟩, ⟨by repeat (first | (with_reducible first | exact HB.out | apply below_alloc | apply pw_below_drewN | apply below_drew1) | exact HB.out)⟩⟩
    case rest =>
      clear HC10
      try clear c1
      try clear hcv1
      try clear p2
      try clear hcv2
      try clear hcv3
      try clear c4
      try clear c5
      try clear c5b0
      try clear c5b1
      try clear hcv11
      try clear hcv12
      try clear c13
      try clear c14
      try clear c15
      try clear c15b0
      try clear c15b1
      try clear c16
      try clear c16b0
      try clear c16b1
      try clear c17
      try clear c17b0
      try clear c17b1
      try clear c18
      try clear c18b0
      try clear c18b1
      try clear hcv19
      try clear hcv20
      try clear hcv21
      try clear hcv22
      try clear hcv23
      try clear hcv24
      try clear hcv25
      try clear hcv26
      try clear hcv27
      try clear hcv28
      try clear hcv29
      try clear hcv30
      try clear hcv31
      try clear hcv32
      try clear hcv33
      try clear hcv34
      try clear hcv35
      try clear hcv36
      try clear hcv37
      try clear hcv38
      obtain ⟨kq, x20_9, rfl, HA, HJ9, HO_10, HB⟩ := hcut
      cases kq with
      | zero => exact absurd HA.out (by simp [reedpipelaw01_BitsPuts.j0])
      | succ kj9 =>
        have H := HA.out
        clear HA
        simp only [reedpipelaw01_BitsPuts.j0] at H
        have H' := Aside0.mk H
        clear H
        go_wp2
        go_loopg [21] kj9 (fun kq v21 w' => ∃ (x10_2 : List Int) (x21_2 : Int), v21 = .int .i64 x21_2 ∧ Aside0 (reedpipelaw01_BitsPuts.l0 kq l0 (strOfNums l0) x10_2 x20_9 x21_2 = some r) ∧ Aside0 (kq ≤ kj9) ∧ Aside0 (Kd.R (Kd.int .u8) 5 w' w.heap.size (fun _ => True) v166 x10_2) ∧ Aside0 (Below w.heap.size w w'))
        case atStart => exact ⟨(t164), (0), (by first | rfl | (simp; done) | (simp [*]; done)), H', ⟨Nat.le_refl _⟩, ⟨by (with_reducible repeat (first | apply Kd.R_alloc | apply Kd.R_drewN | apply Kd.R_drew)); exact HO_10.out⟩, ⟨by repeat (first | (with_reducible first | exact HB.out | apply below_alloc | apply pw_below_drewN | apply below_drew1) | exact HB.out)⟩⟩
        case round =>
          clear H'
          try clear c1
          try clear hcv1
          try clear p2
          try clear hcv2
          try clear hcv3
          try clear c4
          try clear c5
          try clear c5b0
          try clear c5b1
          try clear hcv11
          try clear hcv12
          try clear c13
          try clear c14
          try clear c15
          try clear c15b0
          try clear c15b1
          try clear c16
          try clear c16b0
          try clear c16b1
          try clear c17
          try clear c17b0
          try clear c17b1
          try clear c18
          try clear c18b0
          try clear c18b1
          try clear hcv19
          try clear hcv20
          try clear hcv21
          try clear hcv22
          try clear hcv23
          try clear hcv24
          try clear hcv25
          try clear hcv26
          try clear hcv27
          try clear hcv28
          try clear hcv29
          try clear hcv30
          try clear hcv31
          try clear hcv32
          try clear hcv33
          try clear hcv34
          try clear hcv35
          try clear hcv36
          try clear hcv37
          try clear hcv38
          try clear p2
          obtain ⟨x10_2, x21_2, rfl, HA, HK2, HO_10, HB⟩ := hrel
          cases gk with
          | zero => exact absurd HA.out (by simp [reedpipelaw01_BitsPuts.l0])
          | succ k2 =>
            have H := HA.out
            clear HA
            simp only [reedpipelaw01_BitsPuts.l0] at H
            by_cases c39 : x21_2 < (x10_2.length : Int)
            · rw [if_pos c39] at H
              have c39b0 : decide (x21_2 < (x10_2.length : Int)) = true := decide_eq_true c39
              clear c39
              by_cases c40 : 0 ≤ x21_2
              · rw [if_pos c40] at H
                have c40b0 : decide (0 ≤ x21_2) = true := decide_eq_true c40
                clear c40
                obtain ⟨y179, hy179⟩ : ∃ y_ : List Int, y_ = (x10_2.set (x21_2 : Int).toNat (((rd x10_2 x21_2) + 1) % 256)) := ⟨_, rfl⟩
                replace H : (reedpipelaw01_BitsPuts.l0 k2 l0 (strOfNums l0) y179 x20_9 (wrap64 (x21_2 + 1))) = some r := by first | (rw [hy179]; with_reducible exact H) | (have H2_ := (Option.bind_some _ _).symm.trans H; rw [hy179]; with_reducible exact H2_) | (have H2_ := (Option.bind_some _ _).symm.trans H; with_reducible exact H2_) | with_reducible exact H | (rw [hy179]; exact H) | exact H
                have Ny179 := Aside0.mk hy179
                clear hy179
                have H' := Aside0.mk H
                clear H
                obtain ⟨Ao42, co42, eo42⟩ := Kd.R_slice HO_10.out
                subst eo42
                have p178 : 0 ≤ (x21_2 : Int) := of_decide_eq_true (by first | (with_reducible assumption) | assumption)
                have q178 : x21_2 < (x10_2.length : Int) := of_decide_eq_true (by first | (with_reducible assumption) | assumption)
                obtain ⟨ad178, e178, hx178_0⟩ := Kd.at_int (Kd.R_reads' HO_10.out).2.2 x21_2 p178 q178
                cases e178
                replace p178 := eq_true p178
                replace q178 := eq_true q178
                have p41 : 0 ≤ (x21_2 : Int) := of_decide_eq_true (by first | (with_reducible assumption) | assumption)
                have q41 : (x21_2 : Int) < ((x10_2.length : Int) : Int) := of_decide_eq_true (by first | (with_reducible assumption) | assumption)
                obtain ⟨go41, co41, eo41, gb41, gl41, cl41, HG41⟩ := Kd.R_form HO_10.out (by omega)
                (first | cases eo41 | (injection eo41 with ea_ en_ ec_; (first | subst ea_ | (injection ea_ with ea_; subst ea_)); subst ec_; clear en_))
                have GB41 := Aside0.mk gb41
                have GG41 := Aside0.mk HG41
                clear gb41 gl41 HG41
                (first | simp only [add_plain] at hx178_0 | skip)
                obtain ⟨hx41_0, hf41_0⟩ := Kd.R_celln 0 HO_10.out (x21_2 : Int) p41 q41
                replace p41 := eq_true p41
                replace q41 := eq_true q41
                have HP43 := Kd.R_putg HO_10.out (x21_2 : Int) (((rd x10_2 x21_2) + 1) % 256)
                go_wp2_with (first | ((with_reducible refine gate_store (t := 5) (p := 93) rfl ?_); refine store_event (t := 5) (p := 93) (v := ?vo_w44) (w1 := (wr.setCell ⟨go41, (x21_2 : Int).toNat, none⟩ (.int .u8 (((rd x10_2 x21_2) + 1) % 256)))) ?hg ?ho ?hn ?hr ?_; (case ho => rfl); (case hg => rfl); (case hn => rfl); (case hr => first | (go_simp; done) | (go_simp; rfl)); intro w44 hw; have hg : wr.grownBy w44 (some go41) := (by rw [hw]; exact HP43.2); have hp_ : Kd.R (Kd.int .u8) 5 w44 w.heap.size (fun _ => True) (.slice (some ⟨go41, 0, none⟩) x10_2.length co42) y179 := (by rw [hw, Ny179.out]; exact HP43.1); clear HP43; have n0_ := Aside0.mk (hp_); have n1_ := Aside0.mk ((by rw [hw]; exact below_set (HB.out) GB41.out : Below w.heap.size w w44)); clear HO_10; clear HB; have HO_10 := n0_; have HB := n1_; clear n0_ n1_; clear hg hw hp_))
                go_roundg k2
                case measure => have := HJ9.out; have := HK2.out; omega
                case rel => exact ⟨(y179), (wrap64 (x21_2 + 1)), (by first | rfl | (simp; done) | (simp [*]; done)), H', ⟨by have := HJ9.out; have := HK2.out; omega⟩, ⟨by (with_reducible repeat (first | apply Kd.R_alloc | apply Kd.R_drewN | apply Kd.R_drew)); exact HO_10.out⟩, ⟨by repeat (first | (with_reducible first | exact HB.out | apply below_alloc | apply pw_below_drewN | apply below_drew1) | exact HB.out)⟩⟩
              · rw [if_neg c40] at H
                exact absurd H (by simp)
            · rw [if_neg c39] at H
              have c39b0 : decide (x21_2 < (x10_2.length : Int)) = false := decide_eq_false c39
              clear c39
              by_cases c45 : x20_9 = true
              · subst c45
                have H1 : (some ((strOfNums l0).toList == (strOfNums l0).toList)) = some r := by rw [if_pos rfl] at H; exact H
                clear H
                have H := H1
                clear H1
                obtain rfl := Option.some.inj H
                obtain ⟨Ao46, co46, eo46⟩ := Kd.R_slice HO_10.out
                subst eo46
                have hcv47 := Kd.C_string (P := Try.prog) (A := A0) (c := c0) Try.underlying22 Try.underlying5 Try.underlying9 (Kd.C_below HR0.out HB.out)
                have hcv48 := fun (nq_ : Nat) => Kd.C_string (P := Try.prog) (A := A0) (c := c0) Try.underlying22 Try.underlying5 Try.underlying9 (Kd.C_drewN ((Kd.C_below HR0.out HB.out)) nq_)
                go_wp2
                go_ret
                exact ⟨by first | rfl | (simp [errW_none, errW_some] <;> rfl) | (simp [*, errW_none, errW_some] <;> rfl), by repeat (first | (with_reducible first | exact HB.out | apply below_alloc | apply pw_below_drewN | apply below_drew1) | exact HB.out)⟩
              · replace c45 := Bool.eq_false_iff.mpr c45
                subst c45
                have H1 : (some false) = some r := by rw [if_neg (show ¬ (false = true) by decide)] at H; exact H
                clear H
                have H := H1
                clear H1
                obtain rfl := Option.some.inj H
                obtain ⟨Ao49, co49, eo49⟩ := Kd.R_slice HO_10.out
                subst eo49
                go_wp2
                go_ret
                exact ⟨by first | rfl | (simp [errW_none, errW_some] <;> rfl) | (simp [*, errW_none, errW_some] <;> rfl), by repeat (first | (with_reducible first | exact HB.out | apply below_alloc | apply pw_below_drewN | apply below_drew1) | exact HB.out)⟩

/-- THE ONE PURE STATEMENT of reedpipelaw01_BitsPuts: yours. -/
def reedpipelaw01_BitsPuts.Pure : Prop := ∀ (l0 : List Int) (a1 : Int) (a2 : Int) (a3 : Int), l0.length ≤ maxLen → l0.length * 1 ≤ 140737488351232 → (∀ x ∈ l0, (Lit.int .u8 x).wf = true) → (Lit.int .i64 a1).wf = true → (Lit.int .i64 a2).wf = true → (Lit.int .i64 a3).wf = true → ∃ k, reedpipelaw01_BitsPuts.f k l0 a1 a2 a3 = some true
theorem reedpipelaw01_BitsPuts.walk (P : reedpipelaw01_BitsPuts.Pure) (a0 : Option Addr) (len0 cap0 : Nat) (z0 : List Int) (a1 : Int) (a2 : Int) (a3 : Int) (w : World) (w0 : (a0 = none ∧ len0 = 0 ∧ cap0 = 0 ∧ z0 = []) ∨ ∃ x, a0 = some x ∧ len0 ≤ cap0 ∧ cap0 ≤ maxLen ∧ z0.length = cap0 ∧ (∀ i, i < z0.length → w.cell? (x.add i) = some (.int .u8 (z0.getD i 0))) ∧ ∀ n ∈ z0, (Lit.int .u8 n).wf = true) (y0 : len0 * 1 ≤ 140737488351232) (w1 : (Lit.int .i64 a1).wf = true) (w2 : (Lit.int .i64 a2).wf = true) (w3 : (Lit.int .i64 a3).wf = true) :
    Calls Try.prog 4 #[.slice a0 len0 cap0, .int .i64 a1, .int .i64 a2, .int .i64 a3] w fun e w' => e = .returned (.bool true) ∧ Below w.heap.size w w' := by
  obtain ⟨l0, rfl, hr0, hm0, hw0, hc0⟩ := ReadsInt.ofRowC w0
  obtain ⟨k, h⟩ := P l0 a1 a2 a3 hm0 y0 hw0 w1 w2 w3
  refine (reedpipelaw01_BitsPuts.calls k _ _ l0 a1 a2 a3 true w (Kd.C_of_reads (d := (0 : Int)) (h1 := fun _ => rfl) hr0) hc0 h).mono ?_
  rintro e w' ⟨rfl, hd⟩
  exact ⟨rfl, hd⟩

end Go.Proofs.Ytccnicigldjcdaa.PBits
