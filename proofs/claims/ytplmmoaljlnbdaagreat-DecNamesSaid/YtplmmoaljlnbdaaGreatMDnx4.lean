/- Gathered by a program (wip/merge.py): HKbd, PB0x195, HBlock, PB0x113, PB0x114. -/
import Derived.Test.YtplmmoaljlnbdaaGreatMDnx1
import Derived.Test.YtplmmoaljlnbdaaGreatMDnx2
import Derived.Test.YtplmmoaljlnbdaaGreatMDnx3

section
/- window.kbd, at the two sizes; window.Half. -/
namespace Go.Proofs.YtplmmoaljlnbdaaGreat.Hd
open Go.RowKit Go.Shelf Go.Proofs.YtplmmoaljlnbdaaGreatW.PrintWords Go.Proofs.YtplmmoaljlnbdaaGreatW.PrintMore
set_option linter.unusedVariables false
set_option linter.unusedSimpArgs false

def besArg256 (j : Int) : Int := wrap64 ((wrap64 (678231308304 * j * (256 - j))).tdiv 4294967296)
def besOf256 (j : Int) : Int := (window_bessel.f 70 (besArg256 j)).getD 0
theorem bes_some256 : ∀ j : Nat, j < 257 → window_bessel.f 70 (besArg256 (j : Int)) = some (besOf256 j) := by
  have h : ((List.range 257).all fun n => (window_bessel.f 70 (besArg256 (n : Int))).isSome) = true := by decide +kernel
  intro n hn
  have := List.all_eq_true.1 h n (List.mem_range.2 hn)
  unfold besOf256
  cases e : window_bessel.f 70 (besArg256 (n : Int)) with
  | none => rw [e] at this; cases this
  | some r => rfl
/-- The sum of the first ones. -/
def sumBes256 : Nat → Int
  | 0 => 0
  | k + 1 => wrap64 (sumBes256 k + besOf256 k)
def kbdOf256 (n : Nat) : Int := rootGo (tooSqrt (overGo (sumBes256 257) 44 (sumBes256 (n + 1)) 0)) 32 0

set_option maxRecDepth 100000 in
set_option maxHeartbeats 1000000 in
theorem kbd256_calls (w : World) (hs : ∀ n : Nat, n < 256 → fix_Sqrt.f (overGo (sumBes256 257) 44 (sumBes256 (n + 1)) 0) = some (kbdOf256 n, 0)) :
    Calls Tryz.prog 231 #[.int .i64 256, .int .i64 4] w fun e w' => ∃ g, e = .returned (.slice (some ⟨g, 0, none⟩) 256 256) ∧ Kd.R (Kd.int .i64) 3 w' w.heap.size (fun _ => True) (.slice (some ⟨g, 0, none⟩) 256 256) ((List.range 256).map kbdOf256) ∧ Below w.heap.size w w' := by
  obtain ⟨i0, hi, hz0, hz1, hz2⟩ := info_parts (info3 : (Tryz.prog.info? 3).map (fun i => (i.zero, i.size, i.bytes)) = _)
  have hmk1 := fun W => run_make (P := Tryz.prog) W 31 3 i0 (.int .i64 0) Tryz.underlying31 hi hz0 .i64 .i64 257 257 (by omega) (by omega) (by rw [hz2]; omega) (by omega)
  have hmk2 := fun W => run_make (P := Tryz.prog) W 31 3 i0 (.int .i64 0) Tryz.underlying31 hi hz0 .i64 .i64 256 256 (by omega) (by omega) (by rw [hz2]; omega) (by omega)
  have R1 : Kd.R (Kd.int .i64) 3 (w.alloc (.cells (madeCells #[.int .i64 0] 257) 3)) w.heap.size (fun _ => True) (.slice (some ⟨w.heap.size, 0, none⟩) 257 257) (List.replicate 257 0) := R_made w w.heap.size 3 .i64 257 (Nat.le_refl _) (by omega)
  go_enter Tryz.func231, Tryz.ntmps231
  go_wp2
  go_loopw [6, 15] (fun s i wr => ∃ (k : Nat) (ys : List Int), s = .int .i64 (sumBes256 k) ∧ i = .int .i64 (k : Int) ∧ k ≤ 257 ∧ Aside0 (ys.length = 257 ∧ ∀ j, j < k → ys[j]? = some (sumBes256 (j + 1))) ∧ Aside0 (Kd.R (Kd.int .i64) 3 wr w.heap.size (fun _ => True) (.slice (some ⟨w.heap.size, 0, none⟩) 257 257) ys) ∧ Aside0 (Below w.heap.size w wr))
    (fun _ i _ => 257 - (intOf i).toNat)
  case atStart => exact ⟨0, List.replicate 257 0, rfl, rfl, Nat.zero_le _, ⟨by simp, fun j hj => absurd hj (Nat.not_lt_zero _)⟩, ⟨R1⟩, ⟨(Below.refl _ _).alloc (Nat.le_refl _) _⟩⟩
  case round =>
    clear R1
    obtain ⟨k, ys, rfl, rfl, hk, HY, HO, HB⟩ := hrel
    by_cases hlt : k < 257
    · have hb := window_bessel.calls 70 (besArg256 k) (besOf256 k) wr (bes_some256 k hlt)
      unfold besArg256 at hb
      clear hmk1 hmk2
      have hyl := HY.out.1
      go_wp2_with (go_at_call 274; go_must (refine hb.mono ?_; rintro e w3 ⟨rfl, ⟨nd, rfl⟩⟩); obtain ⟨hst, hfr⟩ := R_cellN (Kd.R_drewN HO.out nd) hyl k (by omega))
      go_roundw
      case rel =>
        refine ⟨k + 1, ys.set k (wrap64 (sumBes256 k + besOf256 k)), rfl, by simp, by omega, ⟨by simp [hyl], fun j hj => ?_⟩, ⟨R_putN (Kd.R_drewN HO.out nd) hyl k _⟩, ⟨(pw_below_drewN HB.out nd).setCell (p := ⟨w.heap.size, k, none⟩) (Nat.le_refl _) _⟩⟩
        by_cases hjk : j = k
        · subst hjk
          rw [List.getElem?_set_self (by omega)]
          rfl
        · rw [List.getElem?_set_ne (by omega)]
          exact HY.out.2 j (by omega)
      case measure => simp [intOf]; omega
    · obtain rfl : k = 257 := by omega
      rename World => wa
      clear hmk1
      have HS : Aside0 (Kd.C (Kd.int .i64) wa (some ⟨w.heap.size, 0, none⟩) ys.length ys) := ⟨(Kd.R_reads' HO.out).2.2⟩
      have hwr := HB.out.size
      have R2 : Kd.R (Kd.int .i64) 3 (wa.alloc (.cells (madeCells #[.int .i64 0] 256) 3)) w.heap.size (fun _ => True) (.slice (some ⟨wa.heap.size, 0, none⟩) 256 256) (List.replicate 256 0) := R_made wa w.heap.size 3 .i64 256 hwr (by omega)
      go_wp2
      clear hmk2
      go_loopw [45] (fun i w2 => ∃ (k : Nat) (zs : List Int), i = .int .i64 (k : Int) ∧ k ≤ 256 ∧ Aside0 (zs.length = 256 ∧ ∀ j, j < k → zs[j]? = some (kbdOf256 j)) ∧ Aside0 (Kd.R (Kd.int .i64) 3 w2 w.heap.size (fun _ => True) (.slice (some ⟨wa.heap.size, 0, none⟩) 256 256) zs) ∧ Aside0 (Below wa.heap.size wa w2))
        (fun i _ => 256 - (intOf i).toNat)
      case atStart => exact ⟨0, List.replicate 256 0, rfl, Nat.zero_le _, ⟨by simp, fun j hj => absurd hj (Nat.not_lt_zero _)⟩, ⟨R2⟩, ⟨(Below.refl _ _).alloc (Nat.le_refl _) _⟩⟩
      case round =>
        clear R2
        obtain ⟨k, zs, rfl, hk, HZ, HO2, HB2⟩ := hrel
        by_cases hlt : k < 256
        · have hq := R_cellN (Kd.R_below HO.out HB2.out) HY.out.1 k (by omega)
          have hv : ys.getD k 0 = sumBes256 (k + 1) := by rw [List.getD_eq_getElem?_getD, HY.out.2 k (by omega)]; rfl
          rw [hv] at hq
          have hcell := hq.1
          clear hq
          have ho := fun W => window_over.calls (sumBes256 (k + 1)) (sumBes256 257) _ W rfl
          have hs' := hs k hlt
          have hsq := fun W => fix_Sqrt.calls _ _ _ W hs'
          go_wp2_with (first
            | (go_at_call 275; go_must (refine (ho _).mono ?_; rintro e w3 ⟨rfl, hb3⟩); have HO3 := Aside0.mk (Kd.R_below HO2.out hb3); have HB3 := Aside0.mk (below_then HB2.out HB2.out.size hb3); clear hb3)
            | (go_at_call 92; go_must (refine (hsq _).mono ?_; rintro e w4 ⟨rfl, hb4⟩); have HO4 := Aside0.mk (Kd.R_below HO3.out hb4); have HB4 := Aside0.mk (below_then HB3.out HB3.out.size hb4); clear hb4; obtain ⟨hst, hfr⟩ := R_cellN HO4.out HZ.out.1 k (by omega)))
          refine ⟨?_, ?measure⟩
          (repeat apply Exists.intro)
          refine ⟨?rel, rfl⟩
          case rel =>
            refine ⟨k + 1, zs.set k (kbdOf256 k), by simp, by omega, ⟨by simp [HZ.out.1], fun j hj => ?_⟩, ⟨R_putN HO4.out HZ.out.1 k _⟩, ⟨HB4.out.setCell (p := ⟨wa.heap.size, k, none⟩) (Nat.le_refl _) _⟩⟩
            by_cases hjk : j = k
            · subst hjk
              rw [List.getElem?_set_self (by rw [HZ.out.1]; omega)]
            · rw [List.getElem?_set_ne (by omega)]
              exact HZ.out.2 j (by omega)
          case measure => simp [intOf]; omega
        · obtain rfl : k = 256 := by omega
          go_wp2
          go_ret
          refine ⟨_, rfl, ?_, below_then HB.out HB.out.size HB2.out⟩
          have e : (List.range 256).map kbdOf256 = zs := by
            refine List.ext_getElem? fun j => ?_
            by_cases hj : j < 256
            · rw [HZ.out.2 j hj]; simp [hj]
            · rw [List.getElem?_eq_none (by simp; omega), List.getElem?_eq_none (by rw [HZ.out.1]; omega)]
          rw [e]
          exact HO2.out
def besArg32 (j : Int) : Int := wrap64 ((wrap64 (1526020443684 * j * (32 - j))).tdiv 67108864)
def besOf32 (j : Int) : Int := (window_bessel.f 70 (besArg32 j)).getD 0
theorem bes_some32 : ∀ j : Nat, j < 33 → window_bessel.f 70 (besArg32 (j : Int)) = some (besOf32 j) := by
  have h : ((List.range 33).all fun n => (window_bessel.f 70 (besArg32 (n : Int))).isSome) = true := by decide +kernel
  intro n hn
  have := List.all_eq_true.1 h n (List.mem_range.2 hn)
  unfold besOf32
  cases e : window_bessel.f 70 (besArg32 (n : Int)) with
  | none => rw [e] at this; cases this
  | some r => rfl
/-- The sum of the first ones. -/
def sumBes32 : Nat → Int
  | 0 => 0
  | k + 1 => wrap64 (sumBes32 k + besOf32 k)
def kbdOf32 (n : Nat) : Int := rootGo (tooSqrt (overGo (sumBes32 33) 44 (sumBes32 (n + 1)) 0)) 32 0

set_option maxRecDepth 100000 in
set_option maxHeartbeats 1000000 in
theorem kbd32_calls (w : World) (hs : ∀ n : Nat, n < 32 → fix_Sqrt.f (overGo (sumBes32 33) 44 (sumBes32 (n + 1)) 0) = some (kbdOf32 n, 0)) :
    Calls Tryz.prog 231 #[.int .i64 32, .int .i64 6] w fun e w' => ∃ g, e = .returned (.slice (some ⟨g, 0, none⟩) 32 32) ∧ Kd.R (Kd.int .i64) 3 w' w.heap.size (fun _ => True) (.slice (some ⟨g, 0, none⟩) 32 32) ((List.range 32).map kbdOf32) ∧ Below w.heap.size w w' := by
  obtain ⟨i0, hi, hz0, hz1, hz2⟩ := info_parts (info3 : (Tryz.prog.info? 3).map (fun i => (i.zero, i.size, i.bytes)) = _)
  have hmk1 := fun W => run_make (P := Tryz.prog) W 31 3 i0 (.int .i64 0) Tryz.underlying31 hi hz0 .i64 .i64 33 33 (by omega) (by omega) (by rw [hz2]; omega) (by omega)
  have hmk2 := fun W => run_make (P := Tryz.prog) W 31 3 i0 (.int .i64 0) Tryz.underlying31 hi hz0 .i64 .i64 32 32 (by omega) (by omega) (by rw [hz2]; omega) (by omega)
  have R1 : Kd.R (Kd.int .i64) 3 (w.alloc (.cells (madeCells #[.int .i64 0] 33) 3)) w.heap.size (fun _ => True) (.slice (some ⟨w.heap.size, 0, none⟩) 33 33) (List.replicate 33 0) := R_made w w.heap.size 3 .i64 33 (Nat.le_refl _) (by omega)
  go_enter Tryz.func231, Tryz.ntmps231
  go_wp2
  go_loopw [6, 15] (fun s i wr => ∃ (k : Nat) (ys : List Int), s = .int .i64 (sumBes32 k) ∧ i = .int .i64 (k : Int) ∧ k ≤ 33 ∧ Aside0 (ys.length = 33 ∧ ∀ j, j < k → ys[j]? = some (sumBes32 (j + 1))) ∧ Aside0 (Kd.R (Kd.int .i64) 3 wr w.heap.size (fun _ => True) (.slice (some ⟨w.heap.size, 0, none⟩) 33 33) ys) ∧ Aside0 (Below w.heap.size w wr))
    (fun _ i _ => 33 - (intOf i).toNat)
  case atStart => exact ⟨0, List.replicate 33 0, rfl, rfl, Nat.zero_le _, ⟨by simp, fun j hj => absurd hj (Nat.not_lt_zero _)⟩, ⟨R1⟩, ⟨(Below.refl _ _).alloc (Nat.le_refl _) _⟩⟩
  case round =>
    clear R1
    obtain ⟨k, ys, rfl, rfl, hk, HY, HO, HB⟩ := hrel
    by_cases hlt : k < 33
    · have hb := window_bessel.calls 70 (besArg32 k) (besOf32 k) wr (bes_some32 k hlt)
      unfold besArg32 at hb
      clear hmk1 hmk2
      have hyl := HY.out.1
      go_wp2_with (go_at_call 274; go_must (refine hb.mono ?_; rintro e w3 ⟨rfl, ⟨nd, rfl⟩⟩); obtain ⟨hst, hfr⟩ := R_cellN (Kd.R_drewN HO.out nd) hyl k (by omega))
      go_roundw
      case rel =>
        refine ⟨k + 1, ys.set k (wrap64 (sumBes32 k + besOf32 k)), rfl, by simp, by omega, ⟨by simp [hyl], fun j hj => ?_⟩, ⟨R_putN (Kd.R_drewN HO.out nd) hyl k _⟩, ⟨(pw_below_drewN HB.out nd).setCell (p := ⟨w.heap.size, k, none⟩) (Nat.le_refl _) _⟩⟩
        by_cases hjk : j = k
        · subst hjk
          rw [List.getElem?_set_self (by omega)]
          rfl
        · rw [List.getElem?_set_ne (by omega)]
          exact HY.out.2 j (by omega)
      case measure => simp [intOf]; omega
    · obtain rfl : k = 33 := by omega
      rename World => wa
      clear hmk1
      have HS : Aside0 (Kd.C (Kd.int .i64) wa (some ⟨w.heap.size, 0, none⟩) ys.length ys) := ⟨(Kd.R_reads' HO.out).2.2⟩
      have hwr := HB.out.size
      have R2 : Kd.R (Kd.int .i64) 3 (wa.alloc (.cells (madeCells #[.int .i64 0] 32) 3)) w.heap.size (fun _ => True) (.slice (some ⟨wa.heap.size, 0, none⟩) 32 32) (List.replicate 32 0) := R_made wa w.heap.size 3 .i64 32 hwr (by omega)
      go_wp2
      clear hmk2
      go_loopw [45] (fun i w2 => ∃ (k : Nat) (zs : List Int), i = .int .i64 (k : Int) ∧ k ≤ 32 ∧ Aside0 (zs.length = 32 ∧ ∀ j, j < k → zs[j]? = some (kbdOf32 j)) ∧ Aside0 (Kd.R (Kd.int .i64) 3 w2 w.heap.size (fun _ => True) (.slice (some ⟨wa.heap.size, 0, none⟩) 32 32) zs) ∧ Aside0 (Below wa.heap.size wa w2))
        (fun i _ => 32 - (intOf i).toNat)
      case atStart => exact ⟨0, List.replicate 32 0, rfl, Nat.zero_le _, ⟨by simp, fun j hj => absurd hj (Nat.not_lt_zero _)⟩, ⟨R2⟩, ⟨(Below.refl _ _).alloc (Nat.le_refl _) _⟩⟩
      case round =>
        clear R2
        obtain ⟨k, zs, rfl, hk, HZ, HO2, HB2⟩ := hrel
        by_cases hlt : k < 32
        · have hq := R_cellN (Kd.R_below HO.out HB2.out) HY.out.1 k (by omega)
          have hv : ys.getD k 0 = sumBes32 (k + 1) := by rw [List.getD_eq_getElem?_getD, HY.out.2 k (by omega)]; rfl
          rw [hv] at hq
          have hcell := hq.1
          clear hq
          have ho := fun W => window_over.calls (sumBes32 (k + 1)) (sumBes32 33) _ W rfl
          have hs' := hs k hlt
          have hsq := fun W => fix_Sqrt.calls _ _ _ W hs'
          go_wp2_with (first
            | (go_at_call 275; go_must (refine (ho _).mono ?_; rintro e w3 ⟨rfl, hb3⟩); have HO3 := Aside0.mk (Kd.R_below HO2.out hb3); have HB3 := Aside0.mk (below_then HB2.out HB2.out.size hb3); clear hb3)
            | (go_at_call 92; go_must (refine (hsq _).mono ?_; rintro e w4 ⟨rfl, hb4⟩); have HO4 := Aside0.mk (Kd.R_below HO3.out hb4); have HB4 := Aside0.mk (below_then HB3.out HB3.out.size hb4); clear hb4; obtain ⟨hst, hfr⟩ := R_cellN HO4.out HZ.out.1 k (by omega)))
          refine ⟨?_, ?measure⟩
          (repeat apply Exists.intro)
          refine ⟨?rel, rfl⟩
          case rel =>
            refine ⟨k + 1, zs.set k (kbdOf32 k), by simp, by omega, ⟨by simp [HZ.out.1], fun j hj => ?_⟩, ⟨R_putN HO4.out HZ.out.1 k _⟩, ⟨HB4.out.setCell (p := ⟨wa.heap.size, k, none⟩) (Nat.le_refl _) _⟩⟩
            by_cases hjk : j = k
            · subst hjk
              rw [List.getElem?_set_self (by rw [HZ.out.1]; omega)]
            · rw [List.getElem?_set_ne (by omega)]
              exact HZ.out.2 j (by omega)
          case measure => simp [intOf]; omega
        · obtain rfl : k = 32 := by omega
          go_wp2
          go_ret
          refine ⟨_, rfl, ?_, below_then HB.out HB.out.size HB2.out⟩
          have e : (List.range 32).map kbdOf32 = zs := by
            refine List.ext_getElem? fun j => ?_
            by_cases hj : j < 32
            · rw [HZ.out.2 j hj]; simp [hj]
            · rw [List.getElem?_eq_none (by simp; omega), List.getElem?_eq_none (by rw [HZ.out.1]; omega)]
          rw [e]
          exact HO2.out

theorem or_bit (q b : Int) (h0 : 0 ≤ q) (h1 : q < 2 ^ 60) (hb : b = 0 ∨ b = 1) : Go.bits .or .i64 (wrap64 (q * 2)) b = q * 2 + b := by
  have e : wrap64 (q * 2) = q * 2 := by unfold wrap64; omega
  rw [e]
  exact bits_join .i64 62 (by decide) wraps_i64 1 (q * 2) b (by omega) (by omega) (by omega) (by omega) (by omega) (by omega)
theorem over_bound (b : Int) : ∀ (k j : Nat) (n q : Int), 0 ≤ q → q < 2 ^ j → j + k ≤ 60 → 0 ≤ overGo b k n q ∧ overGo b k n q < 2 ^ (j + k)
  | 0, j, n, q, h0, h1, _ => ⟨h0, h1⟩
  | k + 1, j, n, q, h0, h1, h2 => by
    have p : (2 : Int) ^ (j + 1) = 2 ^ j * 2 := Int.pow_succ _ _
    have le : (2 : Int) ^ j ≤ 2 ^ 60 := by
      have : 2 ^ j ≤ 2 ^ 60 := Nat.pow_le_pow_right (by omega) (by omega)
      exact_mod_cast this
    have e : j + (k + 1) = j + 1 + k := by omega
    unfold overGo
    rw [or_bit q 0 h0 (by omega) (.inl rfl), or_bit q 1 h0 (by omega) (.inr rfl), e]
    split
    · exact over_bound b k (j + 1) _ _ (by omega) (by omega) (by omega)
    · exact over_bound b k (j + 1) _ _ (by omega) (by omega) (by omega)
theorem sqrt_over (a b : Int) : fix_Sqrt.f (overGo a 44 b 0) = some (rootGo (tooSqrt (overGo a 44 b 0)) 32 0, 0) := by
  have h := over_bound a 44 0 b 0 (by omega) (by omega) (by omega)
  unfold fix_Sqrt.f
  rw [if_neg (by omega), if_neg (by have := h.2; omega)]
def sinOf256 (j : Int) : Int := (trig_Sin.f 17 (2 * j + 1)).getD 0
def sinOf32 (j : Int) : Int := (trig_Sin.f 17 ((2 * j + 1) * 8)).getD 0

theorem sin_some256 : ∀ j : Nat, j < 256 → trig_Sin.f 17 ((2 * (j : Int) + 1)) = some (sinOf256 (j : Int)) := by
  have h : ((List.range 256).all fun j => (trig_Sin.f 17 ((2 * (j : Int) + 1))).isSome) = true := by decide +kernel
  intro j hj
  have := List.all_eq_true.1 h j (List.mem_range.2 hj)
  unfold sinOf256
  cases e : trig_Sin.f 17 ((2 * (j : Int) + 1)) with
  | none => rw [e] at this; cases this
  | some r => rfl
def sineOf256 (n : Nat) : Int := roundOf (sinOf256 n) 4
set_option maxRecDepth 100000 in
set_option maxHeartbeats 1000000 in
theorem half_sine256 (w : World) : Calls Tryz.prog 174 #[.int .u8 0, .bool false] w fun e w' => ∃ g, e = .returned (.tuple #[.slice (some ⟨g, 0, none⟩) 256 256, .int .i64 0]) ∧ Kd.R (Kd.int .i64) 3 w' w.heap.size (fun _ => True) (.slice (some ⟨g, 0, none⟩) 256 256) ((List.range 256).map sineOf256) ∧ Below w.heap.size w w' := by
  obtain ⟨i0, hi, hz0, hz1, hz2⟩ := info_parts (info3 : (Tryz.prog.info? 3).map (fun i => (i.zero, i.size, i.bytes)) = _)
  have hmk1 := fun W => run_make (P := Tryz.prog) W 31 3 i0 (.int .i64 0) Tryz.underlying31 hi hz0 .i64 .i64 256 256 (by omega) (by omega) (by rw [hz2]; omega) (by omega)
  have R1 : Kd.R (Kd.int .i64) 3 (w.alloc (.cells (madeCells #[.int .i64 0] 256) 3)) w.heap.size (fun _ => True) (.slice (some ⟨w.heap.size, 0, none⟩) 256 256) (List.replicate 256 0) := R_made w w.heap.size 3 .i64 256 (Nat.le_refl _) (by omega)
  go_enter Tryz.func174, Tryz.ntmps174
  go_wp2
  go_loopw [19] (fun i wr => ∃ (k : Nat) (ys : List Int), i = .int .i64 (k : Int) ∧ k ≤ 256 ∧ Aside0 (ys.length = 256 ∧ ∀ j, j < k → ys[j]? = some (sineOf256 j)) ∧ Aside0 (Kd.R (Kd.int .i64) 3 wr w.heap.size (fun _ => True) (.slice (some ⟨w.heap.size, 0, none⟩) 256 256) ys) ∧ Aside0 (Below w.heap.size w wr))
    (fun i _ => 256 - (intOf i).toNat)
  case atStart => exact ⟨0, List.replicate 256 0, rfl, Nat.zero_le _, ⟨by simp, fun j hj => absurd hj (Nat.not_lt_zero _)⟩, ⟨R1⟩, ⟨(Below.refl _ _).alloc (Nat.le_refl _) _⟩⟩
  case round =>
    clear R1 hmk1
    obtain ⟨k, ys, rfl, hk, HY, HO, HB⟩ := hrel
    by_cases hlt : k < 256
    · have hsin := trig_Sin.calls 17 _ _ wr (sin_some256 k hlt)
      have hrd := fun W => fix_Round.calls 4 (sinOf256 k) 4 _ _ W (round_some _ 4 (by omega) (by omega))
      go_wp2_with (first
        | (go_at_call 230; go_must (refine hsin.mono ?_; rintro e w3 ⟨rfl, hb3⟩); have HO3 := Aside0.mk (Kd.R_below HO.out hb3); have HB3 := Aside0.mk (below_then HB.out HB.out.size hb3); clear hb3)
        | (go_at_call 36; go_must (refine (hrd _).mono ?_; rintro e w4 ⟨rfl, ⟨nd, rfl⟩⟩); obtain ⟨hst, hfr⟩ := R_cellN (Kd.R_drewN HO3.out nd) HY.out.1 k (by omega)))
      go_roundw
      case rel =>
        refine ⟨k + 1, ys.set k (sineOf256 k), by simp, by omega, ⟨by simp [HY.out.1], fun j hj => ?_⟩, ⟨R_putN (Kd.R_drewN HO3.out nd) HY.out.1 k _⟩, ⟨(pw_below_drewN HB3.out nd).setCell (p := ⟨w.heap.size, k, none⟩) (Nat.le_refl _) _⟩⟩
        by_cases hjk : j = k
        · subst hjk
          rw [List.getElem?_set_self (by rw [HY.out.1]; omega)]
        · rw [List.getElem?_set_ne (by omega)]
          exact HY.out.2 j (by omega)
      case measure => simp [intOf]; omega
    · obtain rfl : k = 256 := by omega
      go_wp2
      go_ret2
      refine ⟨_, rfl, ?_, HB.out⟩
      have e : (List.range 256).map sineOf256 = ys := by
        refine List.ext_getElem? fun j => ?_
        by_cases hj : j < 256
        · rw [HY.out.2 j hj]; simp [hj]
        · rw [List.getElem?_eq_none (by simp; omega), List.getElem?_eq_none (by rw [HY.out.1]; omega)]
      rw [e]
      exact HO.out
theorem half_kbd256 (w : World) : Calls Tryz.prog 174 #[.int .u8 1, .bool false] w fun e w' => ∃ g, e = .returned (.tuple #[.slice (some ⟨g, 0, none⟩) 256 256, .int .i64 0]) ∧ Kd.R (Kd.int .i64) 3 w' w.heap.size (fun _ => True) (.slice (some ⟨g, 0, none⟩) 256 256) ((List.range 256).map kbdOf256) ∧ Below w.heap.size w w' := by
  have hk := kbd256_calls w (fun n hn => sqrt_over _ _)
  go_enter Tryz.func174, Tryz.ntmps174
  go_wp2_with (go_at_call 231; go_must (refine hk.mono ?_; rintro e w3 ⟨g, rfl, ho, hb⟩); have HO := Aside0.mk ho; have HB := Aside0.mk hb; clear ho hb)
  go_ret2
  exact ⟨_, rfl, HO.out, HB.out⟩

theorem sin_some32 : ∀ j : Nat, j < 32 → trig_Sin.f 17 (((2 * (j : Int) + 1) * 8)) = some (sinOf32 (j : Int)) := by
  have h : ((List.range 32).all fun j => (trig_Sin.f 17 (((2 * (j : Int) + 1) * 8))).isSome) = true := by decide +kernel
  intro j hj
  have := List.all_eq_true.1 h j (List.mem_range.2 hj)
  unfold sinOf32
  cases e : trig_Sin.f 17 (((2 * (j : Int) + 1) * 8)) with
  | none => rw [e] at this; cases this
  | some r => rfl
def sineOf32 (n : Nat) : Int := roundOf (sinOf32 n) 4
set_option maxRecDepth 100000 in
set_option maxHeartbeats 1000000 in
theorem half_sine32 (w : World) : Calls Tryz.prog 174 #[.int .u8 0, .bool true] w fun e w' => ∃ g, e = .returned (.tuple #[.slice (some ⟨g, 0, none⟩) 32 32, .int .i64 0]) ∧ Kd.R (Kd.int .i64) 3 w' w.heap.size (fun _ => True) (.slice (some ⟨g, 0, none⟩) 32 32) ((List.range 32).map sineOf32) ∧ Below w.heap.size w w' := by
  obtain ⟨i0, hi, hz0, hz1, hz2⟩ := info_parts (info3 : (Tryz.prog.info? 3).map (fun i => (i.zero, i.size, i.bytes)) = _)
  have hmk1 := fun W => run_make (P := Tryz.prog) W 31 3 i0 (.int .i64 0) Tryz.underlying31 hi hz0 .i64 .i64 32 32 (by omega) (by omega) (by rw [hz2]; omega) (by omega)
  have R1 : Kd.R (Kd.int .i64) 3 (w.alloc (.cells (madeCells #[.int .i64 0] 32) 3)) w.heap.size (fun _ => True) (.slice (some ⟨w.heap.size, 0, none⟩) 32 32) (List.replicate 32 0) := R_made w w.heap.size 3 .i64 32 (Nat.le_refl _) (by omega)
  go_enter Tryz.func174, Tryz.ntmps174
  go_wp2
  go_loopw [19] (fun i wr => ∃ (k : Nat) (ys : List Int), i = .int .i64 (k : Int) ∧ k ≤ 32 ∧ Aside0 (ys.length = 32 ∧ ∀ j, j < k → ys[j]? = some (sineOf32 j)) ∧ Aside0 (Kd.R (Kd.int .i64) 3 wr w.heap.size (fun _ => True) (.slice (some ⟨w.heap.size, 0, none⟩) 32 32) ys) ∧ Aside0 (Below w.heap.size w wr))
    (fun i _ => 32 - (intOf i).toNat)
  case atStart => exact ⟨0, List.replicate 32 0, rfl, Nat.zero_le _, ⟨by simp, fun j hj => absurd hj (Nat.not_lt_zero _)⟩, ⟨R1⟩, ⟨(Below.refl _ _).alloc (Nat.le_refl _) _⟩⟩
  case round =>
    clear R1 hmk1
    obtain ⟨k, ys, rfl, hk, HY, HO, HB⟩ := hrel
    by_cases hlt : k < 32
    · have hsin := trig_Sin.calls 17 _ _ wr (sin_some32 k hlt)
      have hrd := fun W => fix_Round.calls 4 (sinOf32 k) 4 _ _ W (round_some _ 4 (by omega) (by omega))
      go_wp2_with (first
        | (go_at_call 230; go_must (refine hsin.mono ?_; rintro e w3 ⟨rfl, hb3⟩); have HO3 := Aside0.mk (Kd.R_below HO.out hb3); have HB3 := Aside0.mk (below_then HB.out HB.out.size hb3); clear hb3)
        | (go_at_call 36; go_must (refine (hrd _).mono ?_; rintro e w4 ⟨rfl, ⟨nd, rfl⟩⟩); obtain ⟨hst, hfr⟩ := R_cellN (Kd.R_drewN HO3.out nd) HY.out.1 k (by omega)))
      go_roundw
      case rel =>
        refine ⟨k + 1, ys.set k (sineOf32 k), by simp, by omega, ⟨by simp [HY.out.1], fun j hj => ?_⟩, ⟨R_putN (Kd.R_drewN HO3.out nd) HY.out.1 k _⟩, ⟨(pw_below_drewN HB3.out nd).setCell (p := ⟨w.heap.size, k, none⟩) (Nat.le_refl _) _⟩⟩
        by_cases hjk : j = k
        · subst hjk
          rw [List.getElem?_set_self (by rw [HY.out.1]; omega)]
        · rw [List.getElem?_set_ne (by omega)]
          exact HY.out.2 j (by omega)
      case measure => simp [intOf]; omega
    · obtain rfl : k = 32 := by omega
      go_wp2
      go_ret2
      refine ⟨_, rfl, ?_, HB.out⟩
      have e : (List.range 32).map sineOf32 = ys := by
        refine List.ext_getElem? fun j => ?_
        by_cases hj : j < 32
        · rw [HY.out.2 j hj]; simp [hj]
        · rw [List.getElem?_eq_none (by simp; omega), List.getElem?_eq_none (by rw [HY.out.1]; omega)]
      rw [e]
      exact HO.out
theorem half_kbd32 (w : World) : Calls Tryz.prog 174 #[.int .u8 1, .bool true] w fun e w' => ∃ g, e = .returned (.tuple #[.slice (some ⟨g, 0, none⟩) 32 32, .int .i64 0]) ∧ Kd.R (Kd.int .i64) 3 w' w.heap.size (fun _ => True) (.slice (some ⟨g, 0, none⟩) 32 32) ((List.range 32).map kbdOf32) ∧ Below w.heap.size w w' := by
  have hk := kbd32_calls w (fun n hn => sqrt_over _ _)
  go_enter Tryz.func174, Tryz.ntmps174
  go_wp2_with (go_at_call 231; go_must (refine hk.mono ?_; rintro e w3 ⟨g, rfl, ho, hb⟩); have HO := Aside0.mk ho; have HB := Aside0.mk hb; clear ho hb)
  go_ret2
  exact ⟨_, rfl, HO.out, HB.out⟩
end Go.Proofs.YtplmmoaljlnbdaaGreat.Hd
end

section
-- Written by a program of this session (wip/hprint.py), out of the translation's own print.
namespace Go.Proofs.YtplmmoaljlnbdaaGreat.Hd
open Go.RowKit Go.Proofs.YtplmmoaljlnbdaaGreatW.PrintWords Go.Proofs.YtplmmoaljlnbdaaGreatW.PrintLast Go.Proofs.YtplmmoaljlnbdaaGreatW.PrintMore Go.Proofs.YtplmmoaljlnbdaaGreat.Hd
attribute [local go_sem] max2_int min2_int max_two min_two max_three min_three max_four min_four   -- for this text's walks alone
set_option linter.unusedVariables false
set_option linter.unusedSimpArgs false

/-! ### slices_Reverse_int_int: function 175 -/
def slices_Reverse_int_int.l0 : Nat → List Int → Int → Int → Option (List Int)
  | 0, _, _, _ => none
  | k + 1, x0, x2, x3 => if x2 < x3 then (if 0 ≤ x3 then (if x3 < (x0.length : Int) then (if 0 ≤ x2 then (if x2 < (x0.length : Int) then (slices_Reverse_int_int.l0 k ((x0.set (x2 : Int).toNat (rd x0 x3)).set (x3 : Int).toNat (rd x0 x2)) (wrap64 (x2 + 1)) (wrap64 (x3 - 1))) else (none)) else (none)) else (none)) else (none)) else (some x0)
def slices_Reverse_int_int.f (k : Nat) (l0 : List Int) : Option (List Int) := slices_Reverse_int_int.l0 k l0 0 (wrap64 ((l0.length : Int) - 1))
theorem slices_Reverse_int_int.mono_l : ∀ k, (∀ y0 y1 y2, LeO (slices_Reverse_int_int.l0 k y0 y1 y2) (slices_Reverse_int_int.l0 (k + 1) y0 y1 y2))
  | 0 => fun _ _ _ r h => by simp [slices_Reverse_int_int.l0] at h
  | k + 1 => by
    have ih0 := slices_Reverse_int_int.mono_l k
    · intro y0 y1 y2
      unfold slices_Reverse_int_int.l0
      repeat' first
      | (with_reducible exact ih0 _ _ _)
      | (with_reducible exact LeO.refl _)
      | (with_reducible exact LeO.none _)
      | (with_reducible refine LeO.ite ?_ ?_)
      | (with_reducible refine LeO.bind ?_ (fun _ => ?_))
      | exact ih0 _ _ _
      | exact LeO.none _
      | refine LeO.ite ?_ ?_
      | refine LeO.bind ?_ (fun _ => ?_)
theorem slices_Reverse_int_int.mono : ∀ a0 k, LeO (slices_Reverse_int_int.f k a0) (slices_Reverse_int_int.f (k + 1) a0) := by
  intro a0 k
  have ih0 := slices_Reverse_int_int.mono_l k
  unfold slices_Reverse_int_int.f
  repeat' first
      | (with_reducible exact ih0 _ _ _)
      | (with_reducible exact LeO.refl _)
      | (with_reducible exact LeO.none _)
      | (with_reducible refine LeO.ite ?_ ?_)
      | (with_reducible refine LeO.bind ?_ (fun _ => ?_))
      | exact ih0 _ _ _
      | exact LeO.none _
      | refine LeO.ite ?_ ?_
      | refine LeO.bind ?_ (fun _ => ?_)
def slices_Reverse_int_int.T3 : Bool × List (List Nat × List Nat) := (true, [([], []), ([], []), ([], []), ([], []), ([], []), ([], []), ([4, 5], [4, 5]), ([6], [6]), ([], []), ([], []), ([8, 9], [8, 9]), ([10], [10]), ([0, 1, 0, 1, 4, 5, 6, 7, 11], [0, 1]), ([12, 7, 0, 1, 4, 5, 6, 7, 11], [7, 12]), ([2, 3, 0, 1, 2, 3, 4, 5, 6, 7, 8, 9, 10, 11, 12, 13], [2, 3]), ([14, 11, 13, 0, 1, 2, 3, 4, 5, 6, 7, 8, 9, 10, 11, 12, 13], [11, 14])])
def slices_Reverse_int_int.B3 : List Nat := [0, 0, 0, 0, 0, 0, 48, 112, 0, 0, 768, 1792, 4083, 8179, 16383, 32767]
theorem slices_Reverse_int_int.tab3 : rtab .any (opsOf Tryz.f175 3) = slices_Reverse_int_int.T3 := by kernel_rfl
theorem slices_Reverse_int_int.bits3 : waitsOk slices_Reverse_int_int.T3.2 slices_Reverse_int_int.B3 = true := by kernel_rfl
set_option maxHeartbeats 8000000 in
set_option maxRecDepth 100000 in
theorem slices_Reverse_int_int.calls (k : Nat) (P0_ : Nat → Prop) (u9000_ : Value) (l0 : List Int) (r : List Int) (w0 w : World) (hB : Below w0.heap.size w0 w) (ho0 : Kd.R (Kd.int .i64) 3 w w0.heap.size P0_ u9000_ l0) (h : slices_Reverse_int_int.f k l0 = some r) :
    Calls Tryz.prog 175 #[u9000_] w fun e w' => e = .returned (.tuple #[]) ∧ Kd.R (Kd.int .i64) 3 w' w0.heap.size (fun k_ => (P0_ k_ ∨ w.heap.size ≤ k_)) u9000_ r ∧ Below w0.heap.size w0 w' ∧ Kept w w' (fun k_ => P0_ k_) := by
  have HO0 := Aside0.mk (show Kd.R (Kd.int .i64) 3 w w0.heap.size (fun k_ => (P0_ k_ ∨ w.heap.size ≤ k_)) u9000_ l0 from Kd.R_mono ho0 (fun k_ hk => (.inl hk)))
  have HK := Aside0.mk (Kept.refl w (fun k_ => P0_ k_))
  have HW0 := Aside0.mk hB.size
  have HB := Aside0.mk hB
  clear hB
  have H : (slices_Reverse_int_int.l0 k l0 0 (wrap64 ((l0.length : Int) - 1))) = some r := h
  clear h
  have H' := Aside0.mk H
  clear H
  obtain ⟨Ao2, co2, eo2⟩ := Kd.R_slice HO0.out
  subst eo2
  go_enter Tryz.func175, Tryz.ntmps175
  go_wp2
  go_loopg [2, 3] k (fun kq v2 v3 w' => ∃ (x0_1 : List Int) (x2_1 : Int) (x3_1 : Int), v2 = .int .i64 x2_1 ∧ v3 = .int .i64 x3_1 ∧ Aside0 (slices_Reverse_int_int.l0 kq x0_1 x2_1 x3_1 = some r) ∧ Aside0 (kq ≤ k) ∧ Aside0 (Kd.R (Kd.int .i64) 3 w' w0.heap.size (fun k_ => (P0_ k_ ∨ w.heap.size ≤ k_)) (.slice Ao2 l0.length co2) x0_1) ∧ Aside0 (Kept w w' (fun k_ => P0_ k_)) ∧ Aside0 (Below w0.heap.size w0 w'))
  case atStart => exact ⟨(l0), (0), (wrap64 ((l0.length : Int) - 1)), (by first | rfl | (simp; done) | (simp [*]; done)), (by first | rfl | (simp; done) | (simp [*]; done)), H', ⟨Nat.le_refl _⟩, ⟨by (with_reducible repeat (first | apply Kd.R_alloc | apply Kd.R_drewN | apply Kd.R_drew)); exact HO0.out⟩, ⟨by repeat (first | (with_reducible first | exact HK.out | apply Kept.alloc | apply Kept.drewN | apply Kept.drew) | exact HK.out)⟩, ⟨by repeat (first | (with_reducible first | exact HB.out | apply below_alloc | apply pw_below_drewN | apply below_drew1) | exact HB.out)⟩⟩
  case round =>
    clear H'
    try clear c1
    try clear p2
    obtain ⟨x0_1, x2_1, x3_1, rfl, rfl, HA, HK1, HO_0, HK, HB⟩ := hrel
    have hl0_1 := (Kd.R_reads' HO_0.out).1
    rw [hl0_1] at HO_0
    (try simp only [hl0_1])
    cases gk with
    | zero => exact absurd HA.out (by simp [slices_Reverse_int_int.l0])
    | succ k1 =>
      have H := HA.out
      clear HA
      simp only [slices_Reverse_int_int.l0] at H
      by_cases c3 : x2_1 < x3_1
      · rw [if_pos c3] at H
        have c3b0 : decide (x2_1 < x3_1) = true := decide_eq_true c3
        clear c3
        by_cases c4 : 0 ≤ x3_1
        · rw [if_pos c4] at H
          have c4b0 : decide (0 ≤ x3_1) = true := decide_eq_true c4
          clear c4
          by_cases c5 : x3_1 < (x0_1.length : Int)
          · rw [if_pos c5] at H
            have c5b0 : decide (x3_1 < (x0_1.length : Int)) = true := decide_eq_true c5
            clear c5
            by_cases c6 : 0 ≤ x2_1
            · rw [if_pos c6] at H
              have c6b0 : decide (0 ≤ x2_1) = true := decide_eq_true c6
              clear c6
              by_cases c7 : x2_1 < (x0_1.length : Int)
              · rw [if_pos c7] at H
                have c7b0 : decide (x2_1 < (x0_1.length : Int)) = true := decide_eq_true c7
                clear c7
                obtain ⟨y258, hy258⟩ : ∃ y_ : List Int, y_ = (x0_1.set (x2_1 : Int).toNat (rd x0_1 x3_1)) := ⟨_, rfl⟩
                replace H : (slices_Reverse_int_int.l0 k1 (y258.set (x3_1 : Int).toNat (rd x0_1 x2_1)) (wrap64 (x2_1 + 1)) (wrap64 (x3_1 - 1))) = some r := by first | (rw [hy258]; with_reducible exact H) | (have H2_ := (Option.bind_some _ _).symm.trans H; rw [hy258]; with_reducible exact H2_) | (have H2_ := (Option.bind_some _ _).symm.trans H; with_reducible exact H2_) | with_reducible exact H | (rw [hy258]; exact H) | exact H
                have Ny258 := Aside0.mk hy258
                clear hy258
                obtain ⟨y259, hy259⟩ : ∃ y_ : List Int, y_ = (y258.set (x3_1 : Int).toNat (rd x0_1 x2_1)) := ⟨_, rfl⟩
                replace H : (slices_Reverse_int_int.l0 k1 y259 (wrap64 (x2_1 + 1)) (wrap64 (x3_1 - 1))) = some r := by first | (rw [hy259]; with_reducible exact H) | (have H2_ := (Option.bind_some _ _).symm.trans H; rw [hy259]; with_reducible exact H2_) | (have H2_ := (Option.bind_some _ _).symm.trans H; with_reducible exact H2_) | with_reducible exact H | (rw [hy259]; exact H) | exact H
                have Ny259 := Aside0.mk hy259
                clear hy259
                have H' := Aside0.mk H
                clear H
                try go_wp2
                have n0_ := Aside0.mk (Kd.R_drew HO_0.out)
                have n1_ := Aside0.mk (Kept.drew HK.out)
                have n2_ := Aside0.mk (below_drew1 HB.out)
                clear HO_0
                clear HK
                clear HB
                have HO_0 := n0_
                have HK := n1_
                have HB := n2_
                clear n0_ n1_ n2_
                have p256 : 0 ≤ (x3_1 : Int) := of_decide_eq_true (by first | (with_reducible assumption) | assumption)
                have q256 : x3_1 < (x0_1.length : Int) := of_decide_eq_true (by first | (with_reducible assumption) | assumption)
                obtain ⟨ad256, e256, hx256_0⟩ := Kd.at_int (Kd.R_reads' HO_0.out).2.2 x3_1 p256 q256
                cases e256
                replace p256 := eq_true p256
                replace q256 := eq_true q256
                have p257 : 0 ≤ (x2_1 : Int) := of_decide_eq_true (by first | (with_reducible assumption) | assumption)
                have q257 : x2_1 < (x0_1.length : Int) := of_decide_eq_true (by first | (with_reducible assumption) | assumption)
                obtain ⟨ad257, e257, hx257_0⟩ := Kd.at_int (Kd.R_reads' HO_0.out).2.2 x2_1 p257 q257
                obtain rfl : ad256 = ad257 := (by injection e257)
                replace p257 := eq_true p257
                replace q257 := eq_true q257
                have p8 : 0 ≤ (x2_1 : Int) := of_decide_eq_true (by first | (with_reducible assumption) | assumption)
                have q8 : (x2_1 : Int) < ((x0_1.length : Int) : Int) := of_decide_eq_true (by first | (with_reducible assumption) | assumption)
                obtain ⟨go8, co8, eo8, gb8, gl8, cl8, HG8⟩ := Kd.R_form HO_0.out (by omega)
                (first | cases eo8 | (injection eo8 with ea_ en_ ec_; (first | subst ea_ | (injection ea_ with ea_; subst ea_)); subst ec_; clear en_))
                have GB8 := Aside0.mk gb8
                have GG8 := Aside0.mk HG8
                clear gb8 gl8 HG8
                have HMgo8 := Aside0.mk (show (P0_ go8 ∨ w.heap.size ≤ go8) from (HO_0.out.1 _ rfl))
                (first | simp only [add_plain] at hx256_0 | skip)
                (first | simp only [add_plain] at hx257_0 | skip)
                obtain ⟨hx8_0, hf8_0⟩ := Kd.R_celln 0 HO_0.out (x2_1 : Int) p8 q8
                replace p8 := eq_true p8
                replace q8 := eq_true q8
                have HP11 := Kd.R_putn HO_0.out (x2_1 : Int) (rd x0_1 x3_1)
                rw [← Ny258.out] at HP11
                have HQ11 := Aside0.mk HP11
                clear HP11
                have p9 : 0 ≤ (x3_1 : Int) := of_decide_eq_true (by first | (with_reducible assumption) | assumption)
                have q9 : (x3_1 : Int) < ((x0_1.length : Int) : Int) := of_decide_eq_true (by first | (with_reducible assumption) | assumption)
                obtain ⟨hx9_0, hf9_0⟩ := Kd.R_celln 0 HQ11.out (x3_1 : Int) p9 q9
                replace p9 := eq_true p9
                replace q9 := eq_true q9
                have HP12 := Kd.R_putn HQ11.out (x3_1 : Int) (rd x0_1 x2_1)
                rw [← Ny259.out] at HP12
                have HQ12 := Aside0.mk HP12
                clear HP12
                refine start_ (n := 16) (S := fun w' => w'.cell? ⟨go8, (x3_1).toNat, none⟩ = some (.int .i64 (rd x0_1 x3_1)) ∧ w'.cell? ⟨go8, (x2_1).toNat, none⟩ = some (.int .i64 (rd x0_1 x2_1))) (ds := [13, 15]) #[false, false, false, false, false, false, false, false, false, false, false, false, false, false, false, false] (by kernel_rfl) rfl rfl ⟨hx256_0, hx257_0⟩ (fun hHeld => ?_); refine with_tabW slices_Reverse_int_int.tab3 slices_Reverse_int_int.bits3 (fun HT_ HW_ => ?_)
                generalize wr.drew = w10 at HO_0 HK HB GG8 HQ11 HQ12 hf8_0 hf9_0 hx256_0 hx257_0 hx8_0 hx9_0 hHeld ⊢
                refine pure_ (i := 0) (N := some 14) (v := ?_) (a' := ?_) #[true, false, false, false, false, false, false, false, false, false, false, false, false, false, false, false] rfl rfl (any_of HT_.out (by kernel_rfl)) (fun _ _ _ h => h) (Or.inl ⟨by rfl, ?_⟩) ?_ ?_
                rotate_left
                · intro w'
                  go_simp
                  with_reducible rfl
                rotate_left
                · simp only [Act.put, List.setIfInBounds_toArray, List.set_cons_zero, List.set_cons_succ, i64_w, i32_w]
                  rfl
                refine pure_ (i := 1) (N := some 15) (v := ?_) (a' := ?_) #[true, true, false, false, false, false, false, false, false, false, false, false, false, false, false, false] rfl rfl (any_of HT_.out (by kernel_rfl)) (fun _ _ _ h => h) (Or.inl ⟨by rfl, ?_⟩) ?_ ?_
                rotate_left
                · intro w'
                  go_simp
                  with_reducible rfl
                rotate_left
                · simp only [Act.put, List.setIfInBounds_toArray, List.set_cons_zero, List.set_cons_succ, i64_w, i32_w]
                  rfl
                refine pure_ (i := 2) (N := some 16) (v := ?_) (a' := ?_) #[true, true, true, false, false, false, false, false, false, false, false, false, false, false, false, false] rfl rfl (any_of HT_.out (by kernel_rfl)) (fun _ _ _ h => h) (Or.inl ⟨by rfl, ?_⟩) ?_ ?_
                rotate_left
                · intro w'
                  go_simp
                  with_reducible rfl
                rotate_left
                · simp only [Act.put, List.setIfInBounds_toArray, List.set_cons_zero, List.set_cons_succ, i64_w, i32_w]
                  rfl
                refine pure_ (i := 3) (N := some 17) (v := ?_) (a' := ?_) #[true, true, true, true, false, false, false, false, false, false, false, false, false, false, false, false] rfl rfl (any_of HT_.out (by kernel_rfl)) (fun _ _ _ h => h) (Or.inl ⟨by rfl, ?_⟩) ?_ ?_
                rotate_left
                · intro w'
                  go_simp
                  with_reducible rfl
                rotate_left
                · simp only [Act.put, List.setIfInBounds_toArray, List.set_cons_zero, List.set_cons_succ, i64_w, i32_w]
                  rfl
                refine pure_ (i := 4) (N := some 18) (v := ?_) (a' := ?_) #[true, true, true, true, true, false, false, false, false, false, false, false, false, false, false, false] rfl rfl (any_of HT_.out (by kernel_rfl)) (fun _ _ _ h => h) (Or.inl ⟨by rfl, ?_⟩) ?_ ?_
                rotate_left
                · intro w'
                  go_simp
                  with_reducible rfl
                rotate_left
                · simp only [Act.put, List.setIfInBounds_toArray, List.set_cons_zero, List.set_cons_succ, i64_w, i32_w]
                  rfl
                refine pure_ (i := 5) (N := some 19) (v := ?_) (a' := ?_) #[true, true, true, true, true, true, false, false, false, false, false, false, false, false, false, false] rfl rfl (any_of HT_.out (by kernel_rfl)) (fun _ _ _ h => h) (Or.inl ⟨by rfl, ?_⟩) ?_ ?_
                rotate_left
                · intro w'
                  go_simp
                  with_reducible rfl
                rotate_left
                · simp only [Act.put, List.setIfInBounds_toArray, List.set_cons_zero, List.set_cons_succ, i64_w, i32_w]
                  rfl
                refine pure_ (i := 6) (N := some 20) (v := ?_) (a' := ?_) #[true, true, true, true, true, true, true, false, false, false, false, false, false, false, false, false] rfl rfl (any_of HT_.out (by kernel_rfl)) (fun _ _ _ h => h) (Or.inl ⟨by rfl, ?_⟩) ?_ ?_
                rotate_left
                · intro w'
                  go_simp
                  with_reducible rfl
                rotate_left
                · simp only [Act.put, List.setIfInBounds_toArray, List.set_cons_zero, List.set_cons_succ, i64_w, i32_w]
                  rfl
                refine pure_ (i := 8) (N := some 22) (v := ?_) (a' := ?_) #[true, true, true, true, true, true, true, false, true, false, false, false, false, false, false, false] rfl rfl (any_of HT_.out (by kernel_rfl)) (fun _ _ _ h => h) (Or.inl ⟨by rfl, ?_⟩) ?_ ?_
                rotate_left
                · intro w'
                  go_simp
                  with_reducible rfl
                rotate_left
                · simp only [Act.put, List.setIfInBounds_toArray, List.set_cons_zero, List.set_cons_succ, i64_w, i32_w]
                  rfl
                refine pure_ (i := 9) (N := some 23) (v := ?_) (a' := ?_) #[true, true, true, true, true, true, true, false, true, true, false, false, false, false, false, false] rfl rfl (any_of HT_.out (by kernel_rfl)) (fun _ _ _ h => h) (Or.inl ⟨by rfl, ?_⟩) ?_ ?_
                rotate_left
                · intro w'
                  go_simp
                  with_reducible rfl
                rotate_left
                · simp only [Act.put, List.setIfInBounds_toArray, List.set_cons_zero, List.set_cons_succ, i64_w, i32_w]
                  rfl
                refine pure_ (i := 10) (N := some 24) (v := ?_) (a' := ?_) #[true, true, true, true, true, true, true, false, true, true, true, false, false, false, false, false] rfl rfl (any_of HT_.out (by kernel_rfl)) (fun _ _ _ h => h) (Or.inl ⟨by rfl, ?_⟩) ?_ ?_
                rotate_left
                · intro w'
                  go_simp
                  with_reducible rfl
                rotate_left
                · simp only [Act.put, List.setIfInBounds_toArray, List.set_cons_zero, List.set_cons_succ, i64_w, i32_w]
                  rfl
                refine take_ (i := 7) (N := some 21) (v := ?_) (a' := ?_) #[true, true, true, true, true, true, true, true, true, true, true, false, false, false, false, false] rfl rfl (take_ofW HT_.out HW_.out (by kernel_rfl)) (fun _ _ _ h => h) (Or.inl ⟨by rfl, ?_⟩) hHeld ?_ ?_
                rotate_left
                · rintro w' ⟨s0, s1⟩
                  go_simp
                  with_reducible rfl
                rotate_left
                · simp only [Act.put, List.setIfInBounds_toArray, List.set_cons_zero, List.set_cons_succ, i64_w, i32_w]
                  rfl
                refine take_ (i := 11) (N := some 25) (v := ?_) (a' := ?_) #[true, true, true, true, true, true, true, true, true, true, true, true, false, false, false, false] rfl rfl (take_ofW HT_.out HW_.out (by kernel_rfl)) (fun _ _ _ h => h) (Or.inl ⟨by rfl, ?_⟩) hHeld ?_ ?_
                rotate_left
                · rintro w' ⟨s0, s1⟩
                  go_simp
                  with_reducible rfl
                rotate_left
                · simp only [Act.put, List.setIfInBounds_toArray, List.set_cons_zero, List.set_cons_succ, i64_w, i32_w]
                  rfl
                refine pure_ (i := 12) (N := some 26) (v := ?_) (a' := ?_) #[true, true, true, true, true, true, true, true, true, true, true, true, true, false, false, false] rfl rfl (any_of HT_.out (by kernel_rfl)) (fun _ _ _ h => h) (Or.inl ⟨by rfl, ?_⟩) ?_ ?_
                rotate_left
                · intro w'
                  go_simp
                  with_reducible rfl
                rotate_left
                · simp only [Act.put, List.setIfInBounds_toArray, List.set_cons_zero, List.set_cons_succ, i64_w, i32_w]
                  rfl
                refine last_ (i := 13) (N := none) #[true, true, true, true, true, true, true, true, true, true, true, true, true, true, false, false] rfl rfl (one_of HT_.out (by kernel_rfl)) (by decide) (fun K hK => ?_)
                refine skip_ (w1 := ?_) (by rfl) rfl ?_ ?_
                rotate_left
                · go_simp
                  rfl
                refine hK.out _ _ ?_
                clear hK K
                refine pure_ (i := 14) (N := some 27) (v := ?_) (a' := ?_) #[true, true, true, true, true, true, true, true, true, true, true, true, true, true, true, false] rfl rfl (any_of HT_.out (by kernel_rfl)) (fun _ _ _ h => h) (Or.inl ⟨by rfl, ?_⟩) ?_ ?_
                rotate_left
                · intro w'
                  go_simp
                  with_reducible rfl
                rotate_left
                · simp only [Act.put, List.setIfInBounds_toArray, List.set_cons_zero, List.set_cons_succ, i64_w, i32_w]
                  rfl
                refine last_ (i := 15) (N := none) #[true, true, true, true, true, true, true, true, true, true, true, true, true, true, true, true] rfl rfl (one_of HT_.out (by kernel_rfl)) (by decide) (fun K hK => ?_)
                refine skip_ (w1 := ?_) (by rfl) rfl ?_ ?_
                rotate_left
                · go_simp
                  rfl
                refine hK.out _ _ ?_
                clear hK K
                refine done_ (done_of HT_.out (by kernel_rfl)) ?_
                try go_wp2
                (try simp only [← hl0_1])
                go_roundg k1
                case measure => have := HK1.out; omega
                case rel => exact ⟨(y259), (wrap64 (x2_1 + 1)), (wrap64 (x3_1 - 1)), (by first | rfl | (simp; done) | (simp [*]; done)), (by first | rfl | (simp; done) | (simp [*]; done)), H', ⟨by have := HK1.out; omega⟩, ⟨by (try simp only [hl0_1]); (with_reducible repeat (first | apply Kd.R_alloc | apply Kd.R_drewN | apply Kd.R_drew)); exact HQ12.out⟩, ⟨by repeat (first | (with_reducible first | exact HK.out | apply Kept.alloc | apply Kept.drewN | apply Kept.drew | refine Kept.setCell ?_ HMgo8.out _ | refine Kept.setCell ?_ HMgo8.out _) | exact HK.out)⟩, ⟨by repeat (first | (with_reducible first | exact HB.out | apply below_alloc | apply pw_below_drewN | apply below_drew1 | refine below_set ?_ GB8.out | refine below_set ?_ GB8.out) | exact HB.out)⟩⟩
              · rw [if_neg c7] at H
                exact absurd H (by simp)
            · rw [if_neg c6] at H
              exact absurd H (by simp)
          · rw [if_neg c5] at H
            exact absurd H (by simp)
        · rw [if_neg c4] at H
          exact absurd H (by simp)
      · rw [if_neg c3] at H
        have c3b0 : decide (x2_1 < x3_1) = false := decide_eq_false c3
        clear c3
        obtain rfl := Option.some.inj H
        go_wp2
        first | go_end0 | ((try simp only [Exit.inBlock, Exit.then]); refine bodyPost_ret (results_none rfl _ _ _) rfl ?_)
        exact ⟨by first | rfl | (simp [errW_none, errW_some] <;> rfl) | (simp [*, errW_none, errW_some] <;> rfl), (by first | exact (by (with_reducible repeat (first | apply Kd.R_alloc | apply Kd.R_drewN | apply Kd.R_drew)); exact HO_0.out) | (simp only [hl0_1]; exact (by (with_reducible repeat (first | apply Kd.R_alloc | apply Kd.R_drewN | apply Kd.R_drew)); exact HO_0.out))), by repeat (first | (with_reducible first | exact HB.out | apply below_alloc | apply pw_below_drewN | apply below_drew1) | exact HB.out), by repeat (first | (with_reducible first | exact HK.out | apply Kept.alloc | apply Kept.drewN | apply Kept.drew) | exact HK.out)⟩

end Go.Proofs.YtplmmoaljlnbdaaGreat.Hd
end

section
/- block.half, block.fall, block.pieces. -/
namespace Go.Proofs.YtplmmoaljlnbdaaGreat.Hd
open Go.RowKit Go.Shelf Go.Proofs.YtplmmoaljlnbdaaGreatW.PrintWords Go.Proofs.YtplmmoaljlnbdaaGreatW.PrintMore
set_option linter.unusedVariables false
set_option linter.unusedSimpArgs false

def halfLen (short : Bool) : Nat := if short then 32 else 256
def halfAt (shape : Int) (short : Bool) (n : Nat) : Int := if shape = 0 then (if short then sineOf32 n else sineOf256 n) else (if short then kbdOf32 n else kbdOf256 n)
def halfOf (shape : Int) (short : Bool) : List Int := (List.range (halfLen short)).map (halfAt shape short)
theorem halfOf_length (shape : Int) (short : Bool) : (halfOf shape short).length = halfLen short := by simp [halfOf]

theorem Half_calls (shape : Int) (short : Bool) (w : World) (hs : shape = 0 ∨ shape = 1) :
    Calls Tryz.prog 174 #[.int .u8 shape, .bool short] w fun e w' => ∃ g, e = .returned (.tuple #[.slice (some ⟨g, 0, none⟩) (halfLen short) (halfLen short), .int .i64 0]) ∧ Kd.R (Kd.int .i64) 3 w' w.heap.size (fun _ => True) (.slice (some ⟨g, 0, none⟩) (halfLen short) (halfLen short)) (halfOf shape short) ∧ Below w.heap.size w w' := by
  have e (f : Nat → Int) (n : Nat) (h : halfAt shape short = f) (hn : halfLen short = n) : halfOf shape short = (List.range n).map f := by unfold halfOf; rw [h, hn]
  rcases hs with rfl | rfl <;> cases short
  · rw [e sineOf256 256 (funext fun n => by simp [halfAt]) rfl]; exact half_sine256 w
  · rw [e sineOf32 32 (funext fun n => by simp [halfAt]) rfl]; exact half_sine32 w
  · rw [e kbdOf256 256 (funext fun n => by simp [halfAt]) rfl]; exact half_kbd256 w
  · rw [e kbdOf32 32 (funext fun n => by simp [halfAt]) rfl]; exact half_kbd32 w

set_option maxHeartbeats 1000000 in
theorem half_calls (shape : Int) (short : Bool) (w : World) (hs : shape = 0 ∨ shape = 1) :
    Calls Tryz.prog 115 #[.int .u8 shape, .bool short] w fun e w' => ∃ g, e = .returned (.slice (some ⟨g, 0, none⟩) (halfLen short) (halfLen short)) ∧ Kd.R (Kd.int .i64) 3 w' w.heap.size (fun _ => True) (.slice (some ⟨g, 0, none⟩) (halfLen short) (halfLen short)) (halfOf shape short) ∧ Below w.heap.size w w' := by
  have hh := Half_calls shape short w hs
  obtain ⟨i0, hi, hz0, hz1, hz2⟩ := info_parts (info3 : (Tryz.prog.info? 3).map (fun i => (i.zero, i.size, i.bytes)) = _)
  go_enter Tryz.func115, Tryz.ntmps115
  go_wp2_with (go_at_call 174; go_must (refine hh.mono ?_; rintro e w3 ⟨g, rfl, ho, hb⟩); have HO := Aside0.mk ho; have HB := Aside0.mk hb; clear ho hb)
  go_ret
  exact ⟨_, rfl, HO.out, HB.out⟩

/-- A list on its way to its reverse. -/
def mix (l : List Int) (i : Nat) : List Int := (List.range l.length).map fun j => if j < i ∨ l.length - i ≤ j then l.getD (l.length - 1 - j) 0 else l.getD j 0
theorem mix_length (l : List Int) (i : Nat) : (mix l i).length = l.length := by simp [mix]
theorem mix_get (l : List Int) (i j : Nat) (hj : j < l.length) : (mix l i)[j]? = some (if j < i ∨ l.length - i ≤ j then l.getD (l.length - 1 - j) 0 else l.getD j 0) := by
  simp [mix, hj]
theorem mix_zero (l : List Int) : mix l 0 = l := by
  refine List.ext_getElem? fun j => ?_
  by_cases hj : j < l.length
  · rw [mix_get l 0 j hj, if_neg (by omega)]; simp [hj]
  · rw [List.getElem?_eq_none (by rw [mix_length]; omega), List.getElem?_eq_none (by omega)]
theorem mix_end (l : List Int) (i : Nat) (hi : l.length ≤ 2 * i + 1) : mix l i = l.reverse := by
  refine List.ext_getElem? fun j => ?_
  by_cases hj : j < l.length
  · rw [mix_get l i j hj, List.getElem?_reverse hj]
    have h1 : l.length - 1 - j < l.length := by omega
    by_cases h : j < i ∨ l.length - i ≤ j
    · rw [if_pos h]; simp [h1]
    · rw [if_neg h]
      have : l.length - 1 - j = j := by omega
      rw [this]; simp [hj]
  · rw [List.getElem?_eq_none (by rw [mix_length]; omega), List.getElem?_eq_none (by simp; omega)]
theorem mix_step (l : List Int) (i : Nat) (hi : 2 * i + 1 < l.length) : ((mix l i).set i ((mix l i).getD (l.length - 1 - i) 0)).set (l.length - 1 - i) ((mix l i).getD i 0) = mix l (i + 1) := by
  have ha : (mix l i).getD (l.length - 1 - i) 0 = l.getD (l.length - 1 - i) 0 := by rw [List.getD_eq_getElem?_getD, mix_get l i _ (by omega), if_neg (by omega)]; rfl
  have hb : (mix l i).getD i 0 = l.getD i 0 := by rw [List.getD_eq_getElem?_getD, mix_get l i _ (by omega), if_neg (by omega)]; rfl
  rw [ha, hb]
  refine List.ext_getElem? fun j => ?_
  by_cases hj : j < l.length
  · rw [mix_get l (i + 1) j hj]
    by_cases h1 : j = l.length - 1 - i
    · subst h1
      rw [List.getElem?_set_self (by simp [mix_length]; omega), if_pos (by omega)]
      congr 2; omega
    · rw [List.getElem?_set_ne (by omega)]
      by_cases h2 : j = i
      · subst h2
        rw [List.getElem?_set_self (by rw [mix_length]; omega), if_pos (by omega)]
      · rw [List.getElem?_set_ne (by omega), mix_get l i j hj]
        by_cases h3 : j < i ∨ l.length - i ≤ j
        · rw [if_pos h3, if_pos (by omega)]
        · rw [if_neg h3, if_neg (by omega)]
  · rw [List.getElem?_eq_none (by simp [mix_length]; omega), List.getElem?_eq_none (by rw [mix_length]; omega)]
theorem reverse_l0 (l : List Int) (hl : l.length ≤ 1048576) : ∀ (d k i : Nat), l.length - 2 * i ≤ d → d < k → slices_Reverse_int_int.l0 k (mix l i) (i : Int) ((l.length : Int) - 1 - i) = some (if 2 * i < l.length then l.reverse else mix l i) := by
  intro d
  induction d with
  | zero =>
    intro k i hd hk
    obtain ⟨k, rfl⟩ : ∃ m, k = m + 1 := ⟨k - 1, by omega⟩
    simp only [slices_Reverse_int_int.l0]
    rw [if_neg (by omega), if_neg (by omega)]
  | succ d ih =>
    intro k i hd hk
    obtain ⟨k, rfl⟩ : ∃ m, k = m + 1 := ⟨k - 1, by omega⟩
    simp only [slices_Reverse_int_int.l0]
    by_cases h : 2 * i + 1 < l.length
    · have e1 : ((l.length : Int) - 1 - i).toNat = l.length - 1 - i := by omega
      have w1 : wrap64 ((i : Int) + 1) = ((i + 1 : Nat) : Int) := by unfold wrap64; omega
      have w2 : wrap64 ((l.length : Int) - 1 - i - 1) = (l.length : Int) - 1 - ((i + 1 : Nat) : Int) := by unfold wrap64; omega
      rw [if_pos (by omega), if_pos (by omega), if_pos (by rw [mix_length]; omega), if_pos (by omega), if_pos (by rw [mix_length]; omega)]
      simp only [rd, e1, Int.toNat_natCast]
      rw [mix_step l i h, w1, w2, ih k (i + 1) (by omega) (by omega)]
      rw [if_pos (show 2 * i < l.length by omega)]
      congr 1
      split
      · rfl
      · exact mix_end l (i + 1) (by omega)
    · rw [if_neg (by omega)]
      congr 1
      split
      · exact mix_end l i (by omega)
      · rfl
theorem reverse_f (l : List Int) (hl : l.length ≤ 1048576) : slices_Reverse_int_int.f (l.length + 1) l = some l.reverse := by
  have h := reverse_l0 l hl l.length (l.length + 1) 0 (by omega) (by omega)
  rw [mix_zero] at h
  have w0 : wrap64 ((l.length : Int) - 1) = (l.length : Int) - 1 - ((0 : Nat) : Int) := by unfold wrap64; omega
  unfold slices_Reverse_int_int.f
  rw [w0]
  refine h.trans ?_
  congr 1
  split
  · rfl
  · have : l = [] := List.length_eq_zero_iff.1 (by omega)
    subst this; rfl

def fallOf (shape : Int) (short : Bool) : List Int := (halfOf shape short).reverse
theorem fallOf_length (shape : Int) (short : Bool) : (fallOf shape short).length = halfLen short := by simp [fallOf, halfOf_length]
set_option maxHeartbeats 1000000 in
theorem fall_calls (shape : Int) (short : Bool) (w : World) (hs : shape = 0 ∨ shape = 1) :
    Calls Tryz.prog 116 #[.int .u8 shape, .bool short] w fun e w' => ∃ g, e = .returned (.slice (some ⟨g, 0, none⟩) (halfLen short) (halfLen short)) ∧ Kd.R (Kd.int .i64) 3 w' w.heap.size (fun _ => True) (.slice (some ⟨g, 0, none⟩) (halfLen short) (halfLen short)) (fallOf shape short) ∧ Below w.heap.size w w' := by
  have hh := half_calls shape short w hs
  go_enter Tryz.func116, Tryz.ntmps116
  go_wp2_with (first
    | (go_at_call 115; go_must (refine hh.mono ?_; rintro e w3 ⟨g, rfl, ho, hb⟩); have HO := Aside0.mk ho; have HB := Aside0.mk hb; clear ho hb)
    | (go_at_call 175; go_must (refine (slices_Reverse_int_int.calls _ (fun _ => True) _ _ _ w _ HB.out HO.out (reverse_f _ (by rw [halfOf_length]; unfold halfLen; split <;> omega))).mono ?_; rintro e w4 ⟨rfl, ho4, hb4, _⟩); have HO4 := Aside0.mk ho4; have HB4 := Aside0.mk hb4; clear ho4 hb4))
  go_ret
  exact ⟨_, rfl, Kd.R_mono HO4.out (fun _ _ => trivial), HB4.out⟩

theorem infoSlice : (Tryz.prog.info? 31).map (fun i => (i.zero, i.size, i.bytes)) = some (some (.slice none 0 0), 1, 24) := by kernel_rfl
def piecesOf (seq : Int) : List Int := if seq = 0 then [0, 4] else if seq = 1 then [0, 2, 3, 5] else [5, 1, 2, 4]
/-- A literal row of whole numbers. -/
theorem C_lit (W : World) (e : TypeId) (xs : List Int) (cs : Array Value) (hcs : cs = (xs.map fun x => Value.int .i64 x).toArray) (hl : xs.length ≤ 1048576) : Kd.C (Kd.int .i64) (W.alloc (.cells cs e)) (some ⟨W.heap.size, 0, none⟩) xs.length xs := by
  have h := Kd.R_of_own (enc := fun x => Value.int .i64 x) (h1 := fun _ => rfl) (ok := fun _ => True) (own_lit W W.heap.size e .i64 xs (Nat.le_refl _) (by omega)) (fun _ _ => trivial)
  have := (Kd.R_reads' h).2.2
  subst hcs
  exact this
set_option maxRecDepth 100000 in
set_option maxHeartbeats 1000000 in
theorem pieces_calls (seq : Int) (w : World) (hs : seq = 0 ∨ seq = 1 ∨ seq = 3) :
    Calls Tryz.prog 173 #[.int .u8 seq] w fun e w' => ∃ A, e = .returned (.slice A (piecesOf seq).length (piecesOf seq).length) ∧ Kd.C (Kd.int .i64) w' A (piecesOf seq).length (piecesOf seq) ∧ Below w.heap.size w w' := by
  obtain ⟨i0, hi, hz0, hz1, hz2⟩ := info_parts infoSlice
  have hix := fun (a b c : Value) (W : World) (k : Nat) (hk : k < 4) (v : Value) (hv : #[a, b, Value.slice none 0 0, c][k]? = some v) => run_index_arr (P := Tryz.prog) 301 31 4 #[a, b, .slice none 0 0, c] .u8 k hk v hv Tryz.underlying301 _ Tryz.underlying31 rfl i0 hi hz1 W
  have B1 : Below w.heap.size w (((w.alloc (.cells #[.int .i64 0, .int .i64 4] 3)).alloc (.cells #[.int .i64 0, .int .i64 2, .int .i64 3, .int .i64 5] 3)).alloc (.cells #[.int .i64 5, .int .i64 1, .int .i64 2, .int .i64 4] 3)) :=
    (((Below.refl _ _).alloc (Nat.le_refl _) _).alloc (by simp) _).alloc (by simp <;> omega) _
  have C0 := Kd.C_alloc (Kd.C_alloc (C_lit w 3 [0, 4] #[.int .i64 0, .int .i64 4] rfl (by simp)) (.cells #[.int .i64 0, .int .i64 2, .int .i64 3, .int .i64 5] 3)) (.cells #[.int .i64 5, .int .i64 1, .int .i64 2, .int .i64 4] 3)
  have C1 := Kd.C_alloc (C_lit (w.alloc (.cells #[.int .i64 0, .int .i64 4] 3)) 3 [0, 2, 3, 5] #[.int .i64 0, .int .i64 2, .int .i64 3, .int .i64 5] rfl (by simp)) (.cells #[.int .i64 5, .int .i64 1, .int .i64 2, .int .i64 4] 3)
  have C2 := C_lit ((w.alloc (.cells #[.int .i64 0, .int .i64 4] 3)).alloc (.cells #[.int .i64 0, .int .i64 2, .int .i64 3, .int .i64 5] 3)) 3 [5, 1, 2, 4] #[.int .i64 5, .int .i64 1, .int .i64 2, .int .i64 4] rfl (by simp)
  simp only [World.size_alloc] at C1 C2
  have B1 := Aside0.mk B1
  have C0 := Aside0.mk C0
  have C1 := Aside0.mk C1
  have C2 := Aside0.mk C2
  go_enter Tryz.func173, Tryz.ntmps173
  rcases hs with rfl | rfl | rfl
  · have hq := fun (a b c : Value) (W : World) => hix a b c W 0 (by omega) _ rfl
    simp only [Int.natCast_zero, Int.cast_ofNat_Int] at hq
    clear hix
    go_wp2
    go_ret
    exact ⟨_, rfl, C0.out, B1.out⟩
  · have hq := fun (a b c : Value) (W : World) => hix a b c W 1 (by omega) _ rfl
    simp only [Int.natCast_one, Int.cast_ofNat_Int] at hq
    clear hix
    go_wp2
    go_ret
    exact ⟨_, rfl, C1.out, B1.out⟩
  · have hq := fun (a b c : Value) (W : World) => hix a b c W 3 (by omega) _ rfl
    simp only [Int.cast_ofNat_Int] at hq
    clear hix
    go_wp2
    go_ret
    exact ⟨_, rfl, C2.out, B1.out⟩
end Go.Proofs.YtplmmoaljlnbdaaGreat.Hd
end

section
-- Written by a program of this session (wip/hprint.py), out of the translation's own print.
namespace Go.Proofs.YtplmmoaljlnbdaaGreat.Hd
open Go.RowKit Go.Proofs.YtplmmoaljlnbdaaGreatW.PrintWords Go.Proofs.YtplmmoaljlnbdaaGreatW.PrintLast Go.Proofs.YtplmmoaljlnbdaaGreatW.PrintMore Go.Proofs.YtplmmoaljlnbdaaGreat.Hd
attribute [local go_sem] max2_int min2_int max_two min_two max_three min_three max_four min_four   -- for this text's walks alone
set_option linter.unusedVariables false
set_option linter.unusedSimpArgs false

/-! ### bits_Mul64: function 196 -/
def bits_Mul64.f (a0 : Int) (a1 : Int) : Option (Int × Int) := some (IntKind.u64.wrap ((IntKind.u64.wrap ((IntKind.u64.wrap ((a0 / 4294967296) * (a1 / 4294967296))) + ((IntKind.u64.wrap ((IntKind.u64.wrap ((a0 / 4294967296) * (Go.bits .and .u64 a1 4294967295))) + ((IntKind.u64.wrap ((Go.bits .and .u64 a0 4294967295) * (Go.bits .and .u64 a1 4294967295))) / 4294967296))) / 4294967296))) + ((IntKind.u64.wrap ((Go.bits .and .u64 (IntKind.u64.wrap ((IntKind.u64.wrap ((a0 / 4294967296) * (Go.bits .and .u64 a1 4294967295))) + ((IntKind.u64.wrap ((Go.bits .and .u64 a0 4294967295) * (Go.bits .and .u64 a1 4294967295))) / 4294967296))) 4294967295) + (IntKind.u64.wrap ((Go.bits .and .u64 a0 4294967295) * (a1 / 4294967296))))) / 4294967296)), IntKind.u64.wrap (a0 * a1))
set_option maxHeartbeats 8000000 in
set_option maxRecDepth 100000 in
theorem bits_Mul64.calls (a0 : Int) (a1 : Int) (r1 : Int) (r2 : Int) (w : World) (h : bits_Mul64.f a0 a1 = some (r1, r2)) :
    Calls Tryz.prog 196 #[.int .u64 a0, .int .u64 a1] w fun e w' => e = .returned (.tuple #[.int .u64 r1, .int .u64 r2]) ∧ Drawn0 w w' := by
  have H : (some (IntKind.u64.wrap ((IntKind.u64.wrap ((IntKind.u64.wrap ((a0 / 4294967296) * (a1 / 4294967296))) + ((IntKind.u64.wrap ((IntKind.u64.wrap ((a0 / 4294967296) * (Go.bits .and .u64 a1 4294967295))) + ((IntKind.u64.wrap ((Go.bits .and .u64 a0 4294967295) * (Go.bits .and .u64 a1 4294967295))) / 4294967296))) / 4294967296))) + ((IntKind.u64.wrap ((Go.bits .and .u64 (IntKind.u64.wrap ((IntKind.u64.wrap ((a0 / 4294967296) * (Go.bits .and .u64 a1 4294967295))) + ((IntKind.u64.wrap ((Go.bits .and .u64 a0 4294967295) * (Go.bits .and .u64 a1 4294967295))) / 4294967296))) 4294967295) + (IntKind.u64.wrap ((Go.bits .and .u64 a0 4294967295) * (a1 / 4294967296))))) / 4294967296)), IntKind.u64.wrap (a0 * a1))) = some (r1, r2) := h
  clear h
  simp only [Option.some.injEq, Prod.mk.injEq] at H
  obtain ⟨rfl, rfl⟩ := H
  go_enter Tryz.func196, Tryz.ntmps196
  go_wp2
  go_ret2
  exact ⟨by first | rfl | (simp; done) | (simp [*]; done), by repeat (first | exact Drawn0.refl _ | apply Drawn0.step)⟩

end Go.Proofs.YtplmmoaljlnbdaaGreat.Hd
end

section
-- Written by a program of this session (wip/hprint.py), out of the translation's own print.
namespace Go.Proofs.YtplmmoaljlnbdaaGreat.Hd
open Go.RowKit Go.Proofs.YtplmmoaljlnbdaaGreatW.PrintWords Go.Proofs.YtplmmoaljlnbdaaGreatW.PrintLast Go.Proofs.YtplmmoaljlnbdaaGreatW.PrintMore Go.Proofs.YtplmmoaljlnbdaaGreat.Hd
attribute [local go_sem] max2_int min2_int max_two min_two max_three min_three max_four min_four   -- for this text's walks alone
set_option linter.unusedVariables false
set_option linter.unusedSimpArgs false

/-! ### bits_Mul: function 142 -/
def bits_Mul.f (a0 : Int) (a1 : Int) : Option (Int × Int) := (bits_Mul64.f a0 a1).bind fun bt181 => (some (bt181.1, bt181.2))
set_option maxHeartbeats 8000000 in
set_option maxRecDepth 100000 in
theorem bits_Mul.calls (a0 : Int) (a1 : Int) (r1 : Int) (r2 : Int) (w : World) (h : bits_Mul.f a0 a1 = some (r1, r2)) :
    Calls Tryz.prog 142 #[.int .u64 a0, .int .u64 a1] w fun e w' => e = .returned (.tuple #[.int .u64 r1, .int .u64 r2]) ∧ Drawn0 w w' := by
  have H : ((bits_Mul64.f a0 a1).bind fun bt181 => (some (bt181.1, bt181.2))) = some (r1, r2) := h
  clear h
  replace H := Option.bind_eq_some_iff.mp H
  obtain ⟨⟨t181, t182⟩, A30, H⟩ := H
  replace H : (some (t181, t182)) = some (r1, r2) := H
  have A3 := Aside0.mk A30
  clear A30
  simp only [Option.some.injEq, Prod.mk.injEq] at H
  obtain ⟨rfl, rfl⟩ := H
  go_enter Tryz.func142, Tryz.ntmps142
  go_wp2_with (first | ((with_reducible refine gate_callee (f := 196) rfl ?_); refine goesL_ (some 25) rfl rfl Tryz.func196 (by kernel_rfl) rfl #[.int .u64 a0, .int .u64 a1] rfl (by (try simp only [List.map_toArray, List.map_cons, List.map_nil]); first | done | rfl | (simp only [List.length_drop, List.length_take]; rfl)) ?_; (with_reducible refine (bits_Mul64.calls a0 a1 t181 t182 _ A3.out).mono ?_); rintro e w' ⟨rfl, ⟨nd, rfl⟩⟩; refine ⟨_, rfl, ?_⟩))
  go_ret2
  exact ⟨by first | rfl | (simp; done) | (simp [*]; done), by repeat (first | exact Drawn0.refl _ | apply Drawn0.step)⟩

end Go.Proofs.YtplmmoaljlnbdaaGreat.Hd
end
