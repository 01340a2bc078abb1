/- What Get tells, of the program and of the document's answer alike: one plain function. -/
import Derived.Test.YtccnicigldjcdaaQBits
import Derived.Test.YtccnicigldjcdaaPBitsx16
import Derived.Test.YtccnicigldjcdaaPBitsx17
namespace Go.Proofs.Ytccnicigldjcdaa.Q
open Go.RowKit Go.Proofs.YtccnicigldjcdaaW.PrintWords Go.Proofs.YtccnicigldjcdaaW.PrintMore Go.Proofs.Ytccnicigldjcdaa.H Go.Proofs.Ytccnicigldjcdaa.PBits
set_option linter.unusedVariables false
set_option linter.unusedSimpArgs false

theorem Ev.succ {α : Type} {g : Nat → Option α} {r : α} (h : Ev (fun k => g (k + 1)) r) : Ev g r := Ev.step (fun _ => rfl) h
theorem Ev.const {α : Type} {v : Option α} {r : α} (h : v = some r) : Ev (fun _ => v) r := ⟨0, fun _ _ => h⟩
theorem Ev.pos {α : Type} {c : Prop} [Decidable c] {f g : Nat → Option α} {r : α} (h : c) (k : Ev f r) : Ev (fun n => if c then f n else g n) r := Ev.congr (fun _ => if_pos h) k
theorem Ev.neg {α : Type} {c : Prop} [Decidable c] {f g : Nat → Option α} {r : α} (h : ¬ c) (k : Ev g r) : Ev (fun n => if c then f n else g n) r := Ev.congr (fun _ => if_neg h) k
theorem rd_nat (l : List Int) (j : Nat) : rd l (j : Int) = l.getD j 0 := by simp [rd]
theorem i64_of_wf {a : Int} (h : (Lit.int .i64 a).wf = true) : -9223372036854775808 ≤ a ∧ a ≤ 9223372036854775807 := by
  simp [Lit.wf, IntKind.min, IntKind.max, IntKind.signed, IntKind.bits] at h
  omega
/-- x, a multiple of 2, with a bit. -/
theorem or_bit {x c : Int} (h0 : 0 ≤ x) (h1 : x < 4611686018427387904) (hc : c = 0 ∨ c = 1) : Go.bits .or .i64 (2 * x) c = 2 * x + c := by
  have h := bits_join .i64 63 (by decide) (fun n a b => by rw [IntKind.wrap_i64]; omega) 1 (2 * x) c (by omega) (by omega) (by omega) (by omega) (by omega) (by omega)
  exact h

/-- What is got. -/
def getOf (l : List Int) (a s : Int) : Int × Int × Int :=
  if 0 ≤ s ∧ s ≤ 31 ∧ 0 ≤ a ∧ a ≤ (l.length : Int) then
    (if (l.length : Int) - a < s then (0, 0, 5)
     else if ((l.drop a.toNat).take s.toNat).all (fun x => decide (x ≤ 1)) then (valOf ((l.drop a.toNat).take s.toNat), a + s, 0) else (0, 0, 8))
  else (0, 0, 2)

theorem take_step (l : List Int) (a i : Nat) (h : a + i < l.length) : (l.drop a).take (i + 1) = (l.drop a).take i ++ [l.getD (a + i) 0] := by
  rw [List.take_succ_eq_append_getElem (by simp; omega), List.getElem_drop, List.getD_eq_getElem?_getD, List.getElem?_eq_getElem h]
  rfl
theorem bin_of_all {l : List Int} (hb : Bytes l) (h : l.all (fun x => decide (x ≤ 1)) = true) : Bin l := fun x hx => by
  have h1 := hb x hx
  have h2 := List.all_eq_true.1 h x hx
  simp at h2
  omega
theorem all_of_bin {l : List Int} (h : Bin l) : l.all (fun x => decide (x ≤ 1)) = true := List.all_eq_true.2 fun x hx => by rcases h x hx with rfl | rfl <;> rfl
theorem Bytes.cut {l : List Int} (h : Bytes l) (a i : Nat) : Bytes ((l.drop a).take i) := fun x hx => h x (List.mem_of_mem_drop (List.mem_of_mem_take hx))

/-- The program's loop. -/
theorem get_loop (l : List Int) (hb : Bytes l) (hl : l.length ≤ 4611686018427387904) (a s : Nat) (hs : s ≤ 31) (hfit : a + s ≤ l.length) (d : Nat) : ∀ i : Nat, i + d = s → Bin ((l.drop a).take i) →
    Ev (fun k => bits_Get.l0 k l a s (valOf ((l.drop a).take i)) s i) (if ((l.drop a).take s).all (fun x => decide (x ≤ 1)) then (valOf ((l.drop a).take s), (a : Int) + s, 0) else (0, 0, 8)) := by
  induction d with
  | zero =>
    intro i hi hB
    obtain rfl : i = s := by omega
    refine Ev.succ ?_
    simp only [bits_Get.l0]
    rw [all_of_bin hB, wrap64_of (by omega) (by omega)]
    simp only [if_true, Int.lt_irrefl, if_false]
    exact Ev.now _
  | succ d ih =>
    intro i hi hB
    have e : wrap64 ((a : Int) + (i : Int)) = ((a + i : Nat) : Int) := by rw [wrap64_of (by omega) (by omega)]; simp
    have hc := hb.getD (a + i)
    refine Ev.succ ?_
    simp only [bits_Get.l0, e, rd_nat]
    refine Ev.pos (by omega) (Ev.pos (by omega) (Ev.pos (by omega) ?_))
    by_cases h1 : l.getD (a + i) 0 > 1
    · refine Ev.pos h1 ?_
      have hno : ((l.drop a).take s).all (fun x => decide (x ≤ 1)) = false := by
        rw [List.all_eq_false]
        refine ⟨l.getD (a + i) 0, ?_, by rw [decide_eq_true_eq]; omega⟩
        rw [List.getD_eq_getElem?_getD, List.getElem?_eq_getElem (by omega : a + i < l.length)]
        refine List.mem_of_getElem? (i := i) ?_
        rw [List.getElem?_take, if_pos (by omega), List.getElem?_drop, List.getElem?_eq_getElem (by omega : a + i < l.length)]
        rfl
      rw [hno]
      exact Ev.now _
    · refine Ev.neg h1 ?_
      have hc1 : l.getD (a + i) 0 = 0 ∨ l.getD (a + i) 0 = 1 := by omega
      have hB' : Bin ((l.drop a).take (i + 1)) := by
        rw [take_step l a i (by omega)]
        exact hB.append (fun x hx => by rw [List.mem_singleton.1 hx]; exact hc1)
      have hv := valOf_bound hB
      have hlen : ((l.drop a).take i).length = i := by rw [List.length_take, List.length_drop]; omega
      rw [hlen] at hv
      have hp : (2 : Int) ^ i ≤ 2 ^ 31 := pow2_mono (by omega)
      have hp' : (2 : Int) ^ 31 = 2147483648 := by decide
      have h2 := ih (i + 1) (by omega) hB'
      rw [take_step l a i (by omega), valOf_snoc] at h2
      rw [wrap64_of (x := l.getD (a + i) 0) (by omega) (by omega), wrap64_of (x := valOf ((l.drop a).take i) * 2) (by omega) (by omega), wrap64_of (x := (i : Int) + 1) (by omega) (by omega), Int.mul_comm _ 2, or_bit hv.1 (by omega) hc1]
      exact h2

theorem get_is (l : List Int) (a s : Int) (hb : Bytes l) (hl : l.length ≤ 1000000) (ha : -9223372036854775808 ≤ a ∧ a ≤ 9223372036854775807) (hs : -9223372036854775808 ≤ s ∧ s ≤ 9223372036854775807) : Ev (fun k => bits_Get.f k l a s) (getOf l a s) := by
  unfold getOf bits_Get.f bits_sized.f
  by_cases h1 : s ≥ 0
  · rw [if_pos h1]
    simp only [Option.bind_some, decide_eq_true_eq]
    by_cases h2 : s ≤ 31
    · refine Ev.pos h2 ?_
      by_cases h3 : a < 0
      · refine Ev.pos h3 (Ev.succ ?_)
        rw [if_neg (by omega)]
        simp only [bits_Get.j0, if_true]
        exact Ev.now _
      · refine Ev.neg h3 (Ev.succ ?_)
        simp only [bits_Get.j0, decide_eq_true_eq]
        by_cases h4 : a > (l.length : Int)
        · rw [if_neg (by omega)]
          exact Ev.pos h4 (Ev.now _)
        · rw [if_pos (by omega), wrap64_of (by omega) (by omega)]
          refine Ev.neg h4 ?_
          by_cases h5 : (l.length : Int) - a < s
          · rw [if_pos h5]
            exact Ev.pos h5 (Ev.now _)
          · rw [if_neg h5]
            refine Ev.neg h5 ?_
            obtain ⟨a, rfl⟩ := Int.eq_ofNat_of_zero_le (show 0 ≤ a by omega)
            obtain ⟨s, rfl⟩ := Int.eq_ofNat_of_zero_le h1
            have := get_loop l hb (by omega) a s (by omega) (by omega) s 0 (by omega) (by simp [Bin])
            simpa [valOf_nil] using this
    · refine Ev.neg h2 (Ev.succ ?_)
      rw [if_neg (by omega)]
      simp only [bits_Get.j0, if_true]
      exact Ev.now _
  · rw [if_neg h1]
    simp only [Option.bind_some]
    refine Ev.neg (by simp) (Ev.succ ?_)
    rw [if_neg (by omega)]
    simp only [bits_Get.j0, if_true]
    exact Ev.now _

/-- The document's loop. -/
theorem ref_get_loop (l : List Int) (hb : Bytes l) (hl : l.length ≤ 4611686018427387904) (a s : Nat) (hs : s ≤ 31) (hfit : a + s ≤ l.length) (d : Nat) : ∀ i : Nat, i + d = s → Bin ((l.drop a).take i) →
    Ev (fun k => reedpiperef01_Get.l0 k l a s (valOf ((l.drop a).take i)) ((a + i : Nat) : Int)) (if ((l.drop a).take s).all (fun x => decide (x ≤ 1)) then (valOf ((l.drop a).take s), (a : Int) + s, 0) else (0, 0, 8)) := by
  induction d with
  | zero =>
    intro i hi hB
    obtain rfl : i = s := by omega
    refine Ev.succ ?_
    simp only [reedpiperef01_Get.l0]
    rw [all_of_bin hB, wrap64_of (by omega) (by omega)]
    refine Ev.neg (by omega) ?_
    exact Ev.now _
  | succ d ih =>
    intro i hi hB
    have hc := hb.getD (a + i)
    refine Ev.succ ?_
    simp only [reedpiperef01_Get.l0, rd_nat]
    rw [wrap64_of (x := (a : Int) + (s : Int)) (by omega) (by omega)]
    refine Ev.pos (by omega) (Ev.pos (by omega) (Ev.pos (by omega) ?_))
    by_cases h1 : l.getD (a + i) 0 > 1
    · refine Ev.neg (by omega) (Ev.neg (by omega) ?_)
      have hno : ((l.drop a).take s).all (fun x => decide (x ≤ 1)) = false := by
        rw [List.all_eq_false]
        refine ⟨l.getD (a + i) 0, ?_, by rw [decide_eq_true_eq]; omega⟩
        rw [List.getD_eq_getElem?_getD, List.getElem?_eq_getElem (by omega : a + i < l.length)]
        refine List.mem_of_getElem? (i := i) ?_
        rw [List.getElem?_take, if_pos (by omega), List.getElem?_drop, List.getElem?_eq_getElem (by omega : a + i < l.length)]
        rfl
      rw [hno]
      exact Ev.now _
    · have hc1 : l.getD (a + i) 0 = 0 ∨ l.getD (a + i) 0 = 1 := by omega
      have hB' : Bin ((l.drop a).take (i + 1)) := by
        rw [take_step l a i (by omega)]
        exact hB.append (fun x hx => by rw [List.mem_singleton.1 hx]; exact hc1)
      have hv := valOf_bound hB
      have hlen : ((l.drop a).take i).length = i := by rw [List.length_take, List.length_drop]; omega
      rw [hlen] at hv
      have hp : (2 : Int) ^ i ≤ 2 ^ 31 := pow2_mono (by omega)
      have hp' : (2 : Int) ^ 31 = 2147483648 := by decide
      have h2 := ih (i + 1) (by omega) hB'
      rw [take_step l a i (by omega), valOf_snoc] at h2
      have e1 : wrap64 (((a + i : Nat) : Int) + 1) = ((a + (i + 1) : Nat) : Int) := by rw [wrap64_of (by omega) (by omega)]; omega
      rw [wrap64_of (x := l.getD (a + i) 0) (by omega) (by omega), wrap64_of (x := 2 * valOf ((l.drop a).take i)) (by omega) (by omega), wrap64_of (x := 2 * valOf ((l.drop a).take i) + l.getD (a + i) 0) (by omega) (by omega), e1]
      rcases hc1 with h0 | h0
      · exact Ev.pos h0 h2
      · exact Ev.neg (by omega) (Ev.pos h0 h2)

theorem ref_get_is (l : List Int) (a s : Int) (hb : Bytes l) (hl : l.length ≤ 1000000) (ha : -9223372036854775808 ≤ a ∧ a ≤ 9223372036854775807) (hs : -9223372036854775808 ≤ s ∧ s ≤ 9223372036854775807) : Ev (fun k => reedpiperef01_Get.f k l a s) (getOf l a s) := by
  have bad : ∀ c : Prop, ¬ (0 ≤ s ∧ s ≤ 31 ∧ 0 ≤ a ∧ a ≤ (l.length : Int)) → Ev (fun k => reedpiperef01_Get.j0 k l a s true) (getOf l a s) := by
    intro _ h
    unfold getOf
    rw [if_neg h]
    refine Ev.succ ?_
    simp only [reedpiperef01_Get.j0, if_true]
    exact Ev.now _
  unfold reedpiperef01_Get.f
  by_cases h1 : s < 0
  · exact Ev.pos h1 (bad True (by omega))
  refine Ev.neg h1 ?_
  by_cases h2 : s > 31
  · exact Ev.pos h2 (bad True (by omega))
  refine Ev.neg h2 ?_
  by_cases h3 : a < 0
  · exact Ev.pos h3 (bad True (by omega))
  refine Ev.neg h3 ?_
  by_cases h4 : a > (l.length : Int)
  · rw [decide_eq_true h4]
    exact bad True (by omega)
  refine Ev.succ ?_
  unfold getOf
  simp only [reedpiperef01_Get.j0, decide_eq_true_eq]
  rw [if_pos (by omega), wrap64_of (by omega) (by omega)]
  refine Ev.neg h4 ?_
  by_cases h5 : (l.length : Int) - a < s
  · rw [if_pos h5]
    exact Ev.pos h5 (Ev.now _)
  · rw [if_neg h5]
    refine Ev.neg h5 ?_
    obtain ⟨a, rfl⟩ := Int.eq_ofNat_of_zero_le (show 0 ≤ a by omega)
    obtain ⟨s, rfl⟩ := Int.eq_ofNat_of_zero_le (show 0 ≤ s by omega)
    have := ref_get_loop l hb (by omega) a s (by omega) (by omega) s 0 (by omega) (by simp [Bin])
    simpa [valOf_nil] using this
end Go.Proofs.Ytccnicigldjcdaa.Q
