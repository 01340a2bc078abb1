/- BitsSplit: a number's bits are those of its high part, and those of its low part, one behind the other; for any number and two sizes: no condition. -/
import Derived.Test.YtccnicigldjcdaaQPut
import Derived.Test.YtccnicigldjcdaaQAlive
import Derived.Test.YtccnicigldjcdaaPBitsx21
namespace Go.Proofs.Ytccnicigldjcdaa.Pure
open Go.RowKit Go.Proofs.Ytccnicigldjcdaa.H Go.Proofs.Ytccnicigldjcdaa.Q Go.Proofs.Ytccnicigldjcdaa.PBits Go.Proofs.YtccnicigldjcdaaW.PrintWords Go.Proofs.YtccnicigldjcdaaW.PrintMore
set_option linter.unusedVariables false
set_option linter.unusedSimpArgs false
theorem mod16 {x : Int} (h : (Lit.int .u8 x).wf = true) : ∃ m : Nat, Int.tmod (wrap64 x) 16 = (m : Int) ∧ m ≤ 15 := by
  simp [Lit.wf, IntKind.min, IntKind.max, IntKind.signed, IntKind.bits] at h
  rw [wrap64_of (by omega) (by omega), Int.tmod_eq_emod_of_nonneg (by omega)]
  exact ⟨(x % 16).toNat, by omega, by omega⟩
theorem shr_nat (n : Int) (b : Nat) (hb : b ≤ 64) : shr .i64 n (b : Int) = n / 2 ^ b := by
  unfold shr
  rw [Int.toNat_natCast, Nat.min_eq_left (by simp [IntKind.bits]; omega)]
theorem shl_one (b : Nat) (hb : b ≤ 31) : shl .i64 1 (b : Int) = 2 ^ b := by
  unfold shl
  rw [Int.toNat_natCast, Nat.min_eq_left (by simp [IntKind.bits]; omega), Int.one_mul, IntKind.wrap_i64]
  have h1 : (2 : Int) ^ b ≤ 2 ^ 31 := pow2_mono hb
  have h2 : (2 : Int) ^ 31 = 2147483648 := by decide
  have h3 := pow2_pos b
  omega
theorem low_bits {n : Int} (h0 : 0 ≤ n) (h1 : n ≤ 9223372036854775807) (b : Nat) (hb : b ≤ 31) : Go.bits .and .i64 n (wrap64 (shl .i64 1 (b : Int) - 1)) = n % 2 ^ b := by
  have h2 : (2 : Int) ^ b ≤ 2 ^ 31 := pow2_mono hb
  have h3 : (2 : Int) ^ 31 = 2147483648 := by decide
  have h4 := pow2_pos b
  rw [shl_one b hb, wrap64_of (by omega) (by omega)]
  exact bits_mask .i64 63 (by decide) (fun n a b => by rw [IntKind.wrap_i64]; omega) b (by omega) n h0 (by omega)

theorem BitsSplit : reedpipelaw01_BitsSplit.Pure := by
  intro n x y hn hx hy
  have hn := i64_of_wf hn
  obtain ⟨a, ha, ha'⟩ := mod16 hx
  obtain ⟨b, hb, hb'⟩ := mod16 hy
  refine Ev.rounds ?_
  unfold reedpipelaw01_BitsSplit.f
  rw [ha, hb]
  have e : wrap64 ((a : Int) + (b : Int)) = ((a + b : Nat) : Int) := by rw [wrap64_of (by omega) (by omega)]; simp
  rw [e, put_is _ _ _ (by simp)]
  simp only [Option.bind_some]
  by_cases h : 0 ≤ n ∧ n < 2 ^ (a + b)
  · have p0 : putOf [] n ((a + b : Nat) : Int) = (bitsOf n (a + b), 0) := by
      unfold putOf
      rw [Int.toNat_natCast, if_pos ⟨by omega, by omega, h.1, h.2⟩, List.nil_append]
    have hd : n / 2 ^ b < 2 ^ a := by
      refine Int.ediv_lt_of_lt_mul (pow2_pos b) ?_
      rw [← Int.pow_add]
      exact h.2
    have p1 : putOf [] (n / 2 ^ b) (a : Int) = (bitsOf (n / 2 ^ b) a, 0) := by
      unfold putOf
      rw [if_pos ⟨by omega, by omega, Int.ediv_nonneg h.1 (Int.le_of_lt (pow2_pos b)), by simpa using hd⟩]
      simp
    have p2 : putOf (bitsOf (n / 2 ^ b) a) (n % 2 ^ b) (b : Int) = (bitsOf n (a + b), 0) := by
      unfold putOf
      rw [if_pos ⟨by omega, by omega, Int.emod_nonneg _ (Int.ne_of_gt (pow2_pos b)), by simpa using Int.emod_lt_of_pos n (pow2_pos b)⟩, bitsOf_split h.1 (by omega) a b]
      simp
    rw [p0]
    refine Ev.pos rfl (Ev.pos (by omega) ?_)
    rw [shr_nat n b (by omega), put_is _ _ _ (by simp), p1]
    simp only [Option.bind_some]
    rw [low_bits h.1 hn.2 b (by omega), put_is _ _ _ (by rw [bitsOf_length]; omega), p2]
    simp only [Option.bind_some]
    refine Ev.bind alive_is (Ev.pos (by trivial) (Ev.pos (by trivial) (Ev.pos (by trivial) ?_)))
    rw [beq_self_eq_true]
    exact Ev.now _
  · have p0 : putOf [] n ((a + b : Nat) : Int) = ([], 2) := by
      unfold putOf
      rw [Int.toNat_natCast, if_neg (fun hh => h ⟨hh.2.2.1, hh.2.2.2⟩)]
    rw [p0]
    refine Ev.neg (by simp) (Ev.bind alive_is (Ev.pos (by trivial) ?_))
    by_cases h0 : n < 0
    · exact Ev.pos h0 (Ev.now _)
    refine Ev.neg h0 (Ev.pos (by omega) ?_)
    rw [shr_nat n (a + b) (by omega)]
    have : n / 2 ^ (a + b) ≠ 0 := fun hh => h ⟨by omega, (div_zero_iff (by omega) _).1 hh⟩
    have e2 : (n / 2 ^ (a + b) != 0) = true := bne_iff_ne.2 this
    rw [e2]
    exact Ev.now _
end Go.Proofs.Ytccnicigldjcdaa.Pure
