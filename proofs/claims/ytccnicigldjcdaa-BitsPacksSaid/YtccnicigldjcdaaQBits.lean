/- Numbers and their bits, in plain Lean: what a number's bits are, how they are put together and parted. No program in sight but the words of the contracts. -/
import Derived.Test.YtccnicigldjcdaaHBits
namespace Go.Proofs.Ytccnicigldjcdaa.Q
open Go.RowKit Go.Proofs.YtccnicigldjcdaaW.PrintWords Go.Proofs.YtccnicigldjcdaaW.PrintMore Go.Proofs.Ytccnicigldjcdaa.H
set_option linter.unusedVariables false
set_option linter.unusedSimpArgs false

theorem wrap64_of {x : Int} (h0 : -9223372036854775808 ≤ x) (h1 : x ≤ 9223372036854775807) : wrap64 x = x := by unfold wrap64; omega
/-- A list of numbers of a byte each. -/
def Bytes (l : List Int) : Prop := ∀ x ∈ l, 0 ≤ x ∧ x ≤ 255
/-- A list of bits. -/
def Bin (l : List Int) : Prop := ∀ x ∈ l, x = 0 ∨ x = 1
theorem bytes_of_wf {l : List Int} (h : ∀ x ∈ l, (Lit.int .u8 x).wf = true) : Bytes l := fun x hx => by
  have := h x hx
  simp [Lit.wf, IntKind.min, IntKind.max, IntKind.signed, IntKind.bits] at this
  omega
theorem Bin.bytes {l : List Int} (h : Bin l) : Bytes l := fun x hx => by rcases h x hx with rfl | rfl <;> omega
theorem Bytes.getD {l : List Int} (h : Bytes l) (j : Nat) : 0 ≤ l.getD j 0 ∧ l.getD j 0 ≤ 255 := by
  rw [List.getD_eq_getElem?_getD]
  cases hj : l[j]? with
  | none => simp
  | some x => simpa using h x (List.mem_of_getElem? hj)
theorem Bin.append {l m : List Int} (h : Bin l) (k : Bin m) : Bin (l ++ m) := fun x hx => (List.mem_append.1 hx).elim (h x) (k x)
theorem Bytes.append {l m : List Int} (h : Bytes l) (k : Bytes m) : Bytes (l ++ m) := fun x hx => (List.mem_append.1 hx).elim (h x) (k x)
theorem bits_and_one (x : Int) (h0 : 0 ≤ x) (h1 : x < 9223372036854775808) : Go.bits .and .i64 x 1 = x % 2 := by
  have h := bits_mask .i64 63 (by decide) (fun n a b => by rw [IntKind.wrap_i64]; omega) 1 (by decide) x h0 (by simpa using h1)
  simpa using h
/-- Induction from the end. -/
theorem snoc_ind {α : Type} {P : List α → Prop} (h0 : P []) (h1 : ∀ l a, P l → P (l ++ [a])) (l : List α) : P l := by
  have key : ∀ m : List α, P m.reverse := by
    intro m
    induction m with
    | nil => exact h0
    | cons a m ih => rw [List.reverse_cons]; exact h1 _ a ih
  simpa using key l.reverse
theorem pow2_mono {a b : Nat} (h : a ≤ b) : (2 : Int) ^ a ≤ 2 ^ b := by
  have := Nat.pow_le_pow_right (n := 2) (by decide) h
  have e : ∀ c : Nat, ((2 ^ c : Nat) : Int) = 2 ^ c := fun c => by simp
  rw [← e a, ← e b]
  exact_mod_cast this
theorem pow2_pos (a : Nat) : (0 : Int) < 2 ^ a := Int.pow_pos (by decide)
/-- A number's value out of its bits. -/
def valOf (l : List Int) : Int := l.foldl (fun n b => 2 * n + b) 0
theorem valOf_nil : valOf [] = 0 := rfl
theorem valOf_snoc (l : List Int) (b : Int) : valOf (l ++ [b]) = 2 * valOf l + b := by simp [valOf]
theorem bitAt_eq {n : Int} (h0 : 0 ≤ n) (h1 : n < 9223372036854775808) (i : Nat) : bitAt n i = n / 2 ^ i % 2 := by
  have hp : (0 : Int) < 2 ^ i := Int.pow_pos (by decide)
  have a : 0 ≤ n / 2 ^ i := Int.ediv_nonneg h0 (Int.le_of_lt hp)
  have b : n / 2 ^ i ≤ n := Int.ediv_le_self _ h0
  unfold bitAt
  rw [bits_and_one _ a (by omega)]
  omega
theorem bitsOf_snoc {n : Int} (h0 : 0 ≤ n) (h1 : n < 9223372036854775808) : ∀ s : Nat, bitsOf n (s + 1) = bitsOf (n / 2) s ++ [n % 2]
  | 0 => by simp [bitsOf, bitAt_eq h0 h1]
  | s + 1 => by
    have ih := bitsOf_snoc h0 h1 s
    show bitAt n (s + 1) :: bitsOf n (s + 1) = bitAt (n / 2) s :: bitsOf (n / 2) s ++ [n % 2]
    rw [ih, bitAt_eq h0 h1, bitAt_eq (by omega) (by omega), Int.pow_succ, Int.mul_comm, Int.ediv_ediv_of_nonneg (by decide)]
    rfl
theorem bitsOf_bin {n : Int} (h0 : 0 ≤ n) (h1 : n < 9223372036854775808) : ∀ s, Bin (bitsOf n s)
  | 0 => fun x hx => by cases hx
  | s + 1 => fun x hx => by
    rcases List.mem_cons.1 hx with rfl | hx
    · rw [bitAt_eq h0 h1]; omega
    · exact bitsOf_bin h0 h1 s x hx
theorem valOf_bitsOf : ∀ (s : Nat) {n : Int}, 0 ≤ n → n < 9223372036854775808 → n < 2 ^ s → valOf (bitsOf n s) = n
  | 0, n, h0, _, h => by simp at h; obtain rfl : n = 0 := by omega
                         rfl
  | s + 1, n, h0, h1, h => by
    rw [bitsOf_snoc h0 h1, valOf_snoc, valOf_bitsOf s (by omega) (by omega) (by rw [Int.pow_succ] at h; omega)]
    omega
theorem valOf_bound : ∀ {l : List Int}, Bin l → 0 ≤ valOf l ∧ valOf l < 2 ^ l.length := by
  intro l
  refine snoc_ind (P := fun l => Bin l → 0 ≤ valOf l ∧ valOf l < 2 ^ l.length) ?_ ?_ l
  · intro _; simp [valOf]
  · intro l b ih h
    have h1 := ih (fun x hx => h x (List.mem_append_left _ hx))
    have h2 := h b (List.mem_append_right _ (List.mem_singleton.2 rfl))
    rw [valOf_snoc, List.length_append, List.length_singleton, Int.pow_succ]
    omega
theorem bitsOf_valOf : ∀ {l : List Int}, Bin l → l.length ≤ 62 → bitsOf (valOf l) l.length = l := by
  intro l
  refine snoc_ind (P := fun l => Bin l → l.length ≤ 62 → bitsOf (valOf l) l.length = l) ?_ ?_ l
  · intro _ _; rfl
  · intro l b ih h hl
    rw [List.length_append, List.length_singleton] at hl ⊢
    have hb : Bin l := fun x hx => h x (List.mem_append_left _ hx)
    have h1 := valOf_bound hb
    have h2 := h b (List.mem_append_right _ (List.mem_singleton.2 rfl))
    have hp : (2 : Int) ^ l.length ≤ 2 ^ 61 := pow2_mono (by omega)
    have hp' : (2 : Int) ^ 61 = 2305843009213693952 := by decide
    rw [valOf_snoc, bitsOf_snoc (by omega) (by omega)]
    have e1 : (2 * valOf l + b) / 2 = valOf l := by omega
    have e2 : (2 * valOf l + b) % 2 = b := by omega
    rw [e1, e2, ih hb (by omega)]
/-- A number's bits are those of its high part and those of its low part. -/
theorem bitsOf_split {n : Int} (h0 : 0 ≤ n) (h1 : n < 9223372036854775808) (a : Nat) : ∀ b : Nat, bitsOf n (a + b) = bitsOf (n / 2 ^ b) a ++ bitsOf (n % 2 ^ b) b
  | 0 => by simp [bitsOf]
  | b + 1 => by
    have hp : (0 : Int) < 2 ^ (b + 1) := Int.pow_pos (by decide)
    have hp' : (0 : Int) < 2 ^ b := Int.pow_pos (by decide)
    have hm0 := Int.emod_nonneg n (Int.ne_of_gt hp)
    have hm1 : n % 2 ^ (b + 1) ≤ n := by
      have := Int.emod_add_mul_ediv n (2 ^ (b + 1))
      have : 0 ≤ 2 ^ (b + 1) * (n / 2 ^ (b + 1)) := Int.mul_nonneg (Int.le_of_lt hp) (Int.ediv_nonneg h0 (Int.le_of_lt hp))
      omega
    have ih := bitsOf_split (n := n / 2) (by omega) (by omega) a b
    have e1 : n % 2 ^ (b + 1) % 2 = n % 2 := Int.emod_emod_of_dvd _ ⟨2 ^ b, by rw [Int.pow_succ, Int.mul_comm]⟩
    have e2 : n % 2 ^ (b + 1) / 2 = n / 2 % 2 ^ b := by
      have h2 := Int.emod_add_mul_ediv n (2 ^ (b + 1))
      have h3 := Int.emod_lt_of_pos n hp
      have h4 : 2 ^ (b + 1) * (n / 2 ^ (b + 1)) = 2 * (2 ^ b * (n / 2 ^ (b + 1))) := by rw [Int.pow_succ, Int.mul_comm (2 ^ b) 2, Int.mul_assoc]
      have h5 : n / 2 = n % 2 ^ (b + 1) / 2 + 2 ^ b * (n / 2 ^ (b + 1)) := by omega
      have h6 : (2 : Int) ^ (b + 1) = 2 * 2 ^ b := by rw [Int.pow_succ, Int.mul_comm]
      have h7 : n / 2 % 2 ^ b = n % 2 ^ (b + 1) / 2 := by
        rw [h5, Int.add_mul_emod_self_left]
        exact Int.emod_eq_of_lt (by omega) (by omega)
      exact h7.symm
    rw [← Nat.add_assoc, bitsOf_snoc h0 h1, ih, bitsOf_snoc hm0 (by omega), e1, e2, List.append_assoc, Int.pow_succ, Int.mul_comm (2 ^ b) 2, ← Int.ediv_ediv_of_nonneg (by decide)]
end Go.Proofs.Ytccnicigldjcdaa.Q
