/- What Put tells, of the program and of the document's answer alike. -/
import Derived.Test.YtccnicigldjcdaaQGet
import Derived.Test.YtccnicigldjcdaaPBitsx15
namespace Go.Proofs.Ytccnicigldjcdaa.Q
open Go.RowKit Go.Proofs.YtccnicigldjcdaaW.PrintWords Go.Proofs.YtccnicigldjcdaaW.PrintMore Go.Proofs.Ytccnicigldjcdaa.H Go.Proofs.Ytccnicigldjcdaa.PBits
set_option linter.unusedVariables false
set_option linter.unusedSimpArgs false

/-- What is put. -/
def putOf (l : List Int) (n s : Int) : List Int × Int :=
  if 0 ≤ s ∧ s ≤ 31 ∧ 0 ≤ n ∧ n < 2 ^ s.toNat then (l ++ bitsOf n s.toNat, 0) else ([], 2)
theorem div_zero_iff {n : Int} (h : 0 ≤ n) (s : Nat) : n / 2 ^ s = 0 ↔ n < 2 ^ s := by
  have hp := pow2_pos s
  constructor
  · intro h1
    have h2 := Int.emod_add_mul_ediv n (2 ^ s)
    have h3 := Int.emod_lt_of_pos n hp
    rw [h1] at h2
    omega
  · exact Int.ediv_eq_zero_of_lt h
theorem put_is (l : List Int) (n s : Int) (hl : l.length ≤ 1000000) : bits_Put.f l n s = some (putOf l n s) := by
  unfold bits_Put.f putOf
  by_cases h1 : 0 ≤ s
  · rw [if_pos h1]
    by_cases h2 : s ≤ 31
    · rw [if_pos h2]
      by_cases h3 : 0 ≤ n
      · rw [if_pos h3]
        by_cases h4 : n / 2 ^ s.toNat = 0
        · rw [if_pos h4, if_pos (by omega), if_pos ⟨h1, h2, h3, (div_zero_iff h3 _).1 h4⟩]
        · rw [if_neg h4, if_neg (fun h => h4 ((div_zero_iff h3 _).2 h.2.2.2))]
      · rw [if_neg h3, if_neg (by omega)]
    · rw [if_neg h2, if_neg (by omega)]
  · rw [if_neg h1, if_neg (by omega)]
theorem ref_bits_is : ∀ (s : Nat) {n : Int}, 0 ≤ n → n < 9223372036854775808 → s ≤ 1000 → Ev (fun k => reedpiperef01_Bits.f k n s) (bitsOf n s)
  | 0, n, _, _, _ => by
    refine Ev.succ ?_
    simp only [reedpiperef01_Bits.f]
    refine Ev.pos (by simp) (Ev.now _)
  | s + 1, n, h0, h1, hs => by
    refine Ev.succ ?_
    simp only [reedpiperef01_Bits.f]
    refine Ev.neg (by omega) ?_
    rw [Int.tdiv_eq_ediv_of_nonneg h0, Int.tmod_eq_emod_of_nonneg h0, wrap64_of (x := n / 2) (by omega) (by omega), wrap64_of (x := ((s + 1 : Nat) : Int) - 1) (by omega) (by omega)]
    have e : ((s + 1 : Nat) : Int) - 1 = (s : Int) := by omega
    rw [e]
    refine Ev.bind (ref_bits_is s (by omega) (by omega) (by omega)) ?_
    refine Ev.pos (by rw [bitsOf_length]; omega) ?_
    rw [bitsOf_snoc h0 h1]
    have e2 : n % 2 % 256 = n % 2 := by omega
    rw [e2]
    exact Ev.now _
theorem ref_two_loop (s : Nat) (hs : s ≤ 31) (d : Nat) : ∀ i : Nat, i + d = s → Ev (fun k => reedpiperef01_Two.l0 k s (2 ^ i) i) (2 ^ s) := by
  induction d with
  | zero =>
    intro i hi
    obtain rfl : i = s := by omega
    refine Ev.succ ?_
    simp only [reedpiperef01_Two.l0]
    exact Ev.neg (by omega) (Ev.now _)
  | succ d ih =>
    intro i hi
    refine Ev.succ ?_
    simp only [reedpiperef01_Two.l0]
    have hp : (2 : Int) ^ i ≤ 2 ^ 31 := pow2_mono (by omega)
    have hp' : (2 : Int) ^ 31 = 2147483648 := by decide
    have hp0 := pow2_pos i
    rw [wrap64_of (by omega) (by omega), wrap64_of (by omega) (by omega)]
    have e : (2 : Int) * 2 ^ i = 2 ^ (i + 1) := by rw [Int.pow_succ, Int.mul_comm]
    rw [e]
    exact Ev.pos (by omega) (ih (i + 1) (by omega))
theorem ref_two_is (s : Nat) (hs : s ≤ 31) : Ev (fun k => reedpiperef01_Two.f k s) (2 ^ s) := by
  unfold reedpiperef01_Two.f
  simpa using ref_two_loop s hs s 0 (by omega)
theorem ref_put_is (l : List Int) (n s : Int) (hl : l.length ≤ 1000000) (hn : -9223372036854775808 ≤ n ∧ n ≤ 9223372036854775807) : Ev (fun k => reedpiperef01_Put.f k l n s) (putOf l n s) := by
  unfold reedpiperef01_Put.f putOf
  by_cases h1 : s < 0
  · rw [if_neg (by omega)]; exact Ev.pos h1 (Ev.now _)
  refine Ev.neg h1 ?_
  by_cases h2 : s > 31
  · rw [if_neg (by omega)]; exact Ev.pos h2 (Ev.now _)
  refine Ev.neg h2 ?_
  by_cases h3 : n < 0
  · rw [if_neg (by omega)]; exact Ev.pos h3 (Ev.now _)
  refine Ev.neg h3 ?_
  obtain ⟨s, rfl⟩ := Int.eq_ofNat_of_zero_le (show 0 ≤ s by omega)
  simp only [Int.toNat_natCast]
  refine Ev.bind (ref_two_is s (by omega)) ?_
  by_cases h4 : n ≥ 2 ^ s
  · rw [if_neg (by omega)]; exact Ev.pos h4 (Ev.now _)
  refine Ev.neg h4 (Ev.pos (by simp; omega) ?_)
  rw [if_pos (by omega)]
  refine Ev.bind (Ev.now _) (Ev.bind (ref_bits_is s (by omega) (by omega) (by omega)) ?_)
  refine Ev.pos (by rw [bitsOf_length]; simp; omega) ?_
  exact Ev.now _
end Go.Proofs.Ytccnicigldjcdaa.Q
