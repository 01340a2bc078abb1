/- What Pack and Unpack tell, of the program and of the document's answer alike. -/
import Derived.Test.YtccnicigldjcdaaQPut
import Derived.Test.YtccnicigldjcdaaPBitsx1
import Derived.Test.YtccnicigldjcdaaPBitsx3
import Derived.Test.YtccnicigldjcdaaPBitsx8
namespace Go.Proofs.Ytccnicigldjcdaa.Q
open Go.RowKit Go.Proofs.YtccnicigldjcdaaW.PrintWords Go.Proofs.YtccnicigldjcdaaW.PrintMore Go.Proofs.Ytccnicigldjcdaa.H Go.Proofs.Ytccnicigldjcdaa.PBits
set_option linter.unusedVariables false
set_option linter.unusedSimpArgs false

/-- The value of m bits of the j-th eight; noughts behind the list. -/
def hv (l : List Int) (j : Nat) : Nat → Int
  | 0 => 0
  | m + 1 => 2 * hv l j m + l.getD (8 * j + m) 0
def packed (l : List Int) : List Int := (List.range ((l.length + 7) / 8)).map fun j => hv l j 8
def packOf (l : List Int) : List Int × Int := if (l.length : Int) > 16777216 then ([], 3) else if l.all (fun x => decide (x ≤ 1)) then (packed l, 0) else ([], 8)
theorem Bin.getD {l : List Int} (h : Bin l) (j : Nat) : l.getD j 0 = 0 ∨ l.getD j 0 = 1 := by
  rw [List.getD_eq_getElem?_getD]
  cases hj : l[j]? with
  | none => exact .inl rfl
  | some x => exact h x (List.mem_of_getElem? hj)
theorem hv_bound {l : List Int} (h : Bin l) (j : Nat) : ∀ m, 0 ≤ hv l j m ∧ hv l j m < 2 ^ m
  | 0 => by simp [hv]
  | m + 1 => by
    have h1 := hv_bound h j m
    have h2 := h.getD (8 * j + m)
    rw [Int.pow_succ]
    simp only [hv]
    omega
/-- The list under way, i bits having been taken. -/
def partly (l : List Int) (i : Nat) : List Int := (List.range ((l.length + 7) / 8)).map fun j => if 8 * j + 8 ≤ i then hv l j 8 else if 8 * j ≤ i then hv l j (i - 8 * j) * 2 ^ (8 - (i - 8 * j)) else 0
theorem partly_length (l : List Int) (i : Nat) : (partly l i).length = (l.length + 7) / 8 := by simp [partly]
theorem partly_zero (l : List Int) : partly l 0 = List.replicate ((l.length + 7) / 8) 0 := by
  apply List.ext_getElem
  · simp [partly]
  · intro j h1 h2
    simp only [partly, List.getElem_map, List.getElem_range, List.getElem_replicate]
    rw [if_neg (by omega)]
    split
    · obtain rfl : j = 0 := by omega
      simp [hv]
    · rfl
theorem hv_tail {l : List Int} (j : Nat) : ∀ m n : Nat, l.length ≤ 8 * j + m → hv l j (m + n) = hv l j m * 2 ^ n
  | m, 0, _ => by simp
  | m, n + 1, h => by
    have ih := hv_tail j m n h
    rw [← Nat.add_assoc]
    simp only [hv]
    rw [ih, List.getD_eq_getElem?_getD, List.getElem?_eq_none (by omega), Int.pow_succ]
    simp only [Option.getD_none, Int.add_zero]
    rw [Int.mul_comm 2, Int.mul_assoc]
theorem partly_all (l : List Int) : partly l l.length = packed l := by
  apply List.ext_getElem
  · simp [partly, packed]
  · intro j h1 h2
    simp only [partly, packed, List.getElem_map, List.getElem_range]
    split
    · rfl
    · have hj : j < (l.length + 7) / 8 := by simpa [packed] using h2
      rw [if_pos (by omega)]
      have := hv_tail (l := l) j (l.length - 8 * j) (8 - (l.length - 8 * j)) (by omega)
      rw [← this]
      congr 1
      omega
theorem or_byte {x y : Int} (i : Nat) (hx0 : 0 ≤ x) (hx : x % 2 ^ i = 0) (hx1 : x < 256) (hy0 : 0 ≤ y) (hy : y < 2 ^ i) (hy1 : y < 256) : Go.bits .or .u8 x y = x + y :=
  bits_join .u8 8 (by decide) (fun n a b => by rw [IntKind.wrap_u8]; omega) i x y hx0 hx (by simpa using hx1) hy0 hy (by simpa using hy1)
theorem partly_step {l : List Int} (h : Bin l) (q r : Nat) (hr : r < 8) (hi : 8 * q + r < l.length) :
    (partly l (8 * q + r)).set q (Go.bits .or .u8 ((partly l (8 * q + r)).getD q 0) (shl .u8 (l.getD (8 * q + r) 0) ((7 - r : Nat) : Int))) = partly l (8 * q + r + 1) := by
  have hql : q < (partly l (8 * q + r)).length := by rw [partly_length]; omega
  have hb := hv_bound h q r
  have hc := h.getD (8 * q + r)
  have hp : (2 : Int) ^ r * 2 ^ (8 - r) = 256 := by rw [← Int.pow_add, show r + (8 - r) = 8 by omega]; rfl
  have hp8 := pow2_pos (8 - r)
  have hp7 := pow2_pos (7 - r)
  have hp78 : (2 : Int) ^ (8 - r) = 2 * 2 ^ (7 - r) := by rw [show 8 - r = (7 - r) + 1 by omega, Int.pow_succ, Int.mul_comm]
  have hp7' : (2 : Int) ^ (7 - r) ≤ 2 ^ 7 := pow2_mono (by omega)
  have hp7'' : (2 : Int) ^ 7 = 128 := by decide
  have hcell : (partly l (8 * q + r)).getD q 0 = hv l q r * 2 ^ (8 - r) := by
    rw [List.getD_eq_getElem?_getD, List.getElem?_eq_getElem hql]
    simp only [partly, List.getElem_map, List.getElem_range, Option.getD_some]
    rw [if_neg (by omega), if_pos (by omega), show 8 * q + r - 8 * q = r by omega]
  have hx1 : hv l q r * 2 ^ (8 - r) < 256 := by
    rw [← hp]
    exact Int.mul_lt_mul_of_pos_right hb.2 hp8
  have hs : shl .u8 (l.getD (8 * q + r) 0) ((7 - r : Nat) : Int) = l.getD (8 * q + r) 0 * 2 ^ (7 - r) := by
    unfold shl
    rw [Int.toNat_natCast, Nat.min_eq_left (by simp [IntKind.bits]; omega), IntKind.wrap_u8]
    rcases hc with h0 | h0 <;> rw [h0] <;> simp <;> omega
  have hval : Go.bits .or .u8 ((partly l (8 * q + r)).getD q 0) (shl .u8 (l.getD (8 * q + r) 0) ((7 - r : Nat) : Int)) = hv l q (r + 1) * 2 ^ (8 - (r + 1)) := by
    rw [hcell, hs, or_byte (8 - r) (Int.mul_nonneg hb.1 (Int.le_of_lt hp8)) (Int.mul_emod_left _ _) hx1 (by rcases hc with h0 | h0 <;> rw [h0] <;> omega) (by rcases hc with h0 | h0 <;> rw [h0] <;> omega) (by rcases hc with h0 | h0 <;> rw [h0] <;> omega)]
    simp only [hv]
    rw [show 8 - (r + 1) = 7 - r by omega, hp78, Int.add_mul, Int.mul_comm 2 (hv l q r), Int.mul_assoc]
  rw [hval]
  apply List.ext_getElem
  · simp [partly]
  · intro j h1 h2
    rw [List.getElem_set]
    split
    · rename_i e
      subst e
      simp only [partly, List.getElem_map, List.getElem_range]
      split
      · rename_i h8
        obtain rfl : r = 7 := by omega
        simp
      · rw [if_pos (by omega), show 8 * q + r + 1 - 8 * q = r + 1 by omega]
    · rename_i hne
      simp only [partly, List.getElem_map, List.getElem_range]
      by_cases hj : j < q
      · rw [if_pos (by omega), if_pos (by omega)]
      · rw [if_neg (by omega), if_neg (by omega), if_neg (by omega)]
        split
        · obtain rfl : j = q + 1 := by omega
          have : 8 * q + r + 1 - 8 * (q + 1) = 0 := by omega
          rw [this]
          simp [hv]
        · rfl
theorem eights (q r : Nat) (hr : r < 8) (hq : q ≤ 1000000000) : Int.tdiv ((8 * q + r : Nat) : Int) 8 = (q : Int) ∧ Int.tmod ((8 * q + r : Nat) : Int) 8 = (r : Int) ∧ wrap64 (7 - (r : Int)) = ((7 - r : Nat) : Int) ∧
    wrap64 (((8 * q + r : Nat) : Int) + 1) = ((8 * q + r + 1 : Nat) : Int) ∧ wrap64 (q : Int) = (q : Int) := by
  refine ⟨?_, ?_, ?_, ?_, ?_⟩
  · rw [Int.tdiv_eq_ediv_of_nonneg (by omega)]; omega
  · rw [Int.tmod_eq_emod_of_nonneg (by omega)]; omega
  · rw [wrap64_of (by omega) (by omega)]; omega
  · rw [wrap64_of (by omega) (by omega)]; omega
  · exact wrap64_of (by omega) (by omega)
theorem wrap_byte {c : Int} (h : 0 ≤ c ∧ c ≤ 255) : wrap64 c = c := by unfold wrap64; omega
/-- The program's loop, where each is a bit. -/
theorem pack_ok {l : List Int} (h : Bin l) (hl : l.length ≤ 1000000000) (d : Nat) : ∀ i : Nat, i + d = l.length → Ev (fun k => bits_Pack.l0 k (partly l i) l l.length i) (packed l, 0) := by
  induction d with
  | zero =>
    intro i hi
    obtain rfl : i = l.length := by omega
    refine Ev.succ ?_
    simp only [bits_Pack.l0]
    refine Ev.neg (by omega) ?_
    rw [partly_all]
    exact Ev.now _
  | succ d ih =>
    intro i hi
    refine Ev.succ ?_
    simp only [bits_Pack.l0]
    obtain ⟨q, r, hr, rfl⟩ : ∃ q r, r < 8 ∧ i = 8 * q + r := ⟨i / 8, i % 8, Nat.mod_lt _ (by decide), by omega⟩
    obtain ⟨e1, e2, e3, e4, e5⟩ := eights q r hr (by omega)
    have hc := h.getD (8 * q + r)
    simp only [e1, e2, e3, e4, e5, rd_nat, Int.toNat_natCast]
    refine Ev.pos (by omega) (Ev.pos (by omega) (Ev.pos (by omega) (Ev.neg (by omega) (Ev.pos (by omega) (Ev.pos (by rw [partly_length]; omega) (Ev.pos (by omega) ?_))))))
    rw [partly_step h q r hr (by omega)]
    exact ih (8 * q + r + 1) (by omega)
theorem pack_err {l : List Int} (hl : l.length ≤ 1000000000) {j : Nat} (hj : j < l.length) (hx : l.getD j 0 > 1) (d : Nat) : ∀ (i : Nat) (o : List Int), l.length ≤ 8 * o.length → i + d = j → Ev (fun k => bits_Pack.l0 k o l l.length i) ([], 8) := by
  induction d with
  | zero =>
    intro i o ho hi
    obtain rfl : i = j := by omega
    refine Ev.succ ?_
    simp only [bits_Pack.l0, rd_nat]
    exact Ev.pos (by omega) (Ev.pos (by omega) (Ev.pos (by omega) (Ev.pos hx (Ev.now _))))
  | succ d ih =>
    intro i o ho hi
    refine Ev.succ ?_
    simp only [bits_Pack.l0]
    obtain ⟨q, r, hr, rfl⟩ : ∃ q r, r < 8 ∧ i = 8 * q + r := ⟨i / 8, i % 8, Nat.mod_lt _ (by decide), by omega⟩
    obtain ⟨e1, e2, e3, e4, e5⟩ := eights q r hr (by omega)
    simp only [e1, e2, e3, e4, e5, rd_nat, Int.toNat_natCast]
    clear e1 e2 e3 e4 e5
    by_cases h1 : l.getD (8 * q + r) 0 > 1
    · exact Ev.pos (by omega) (Ev.pos (by omega) (Ev.pos (by omega) (Ev.pos h1 (Ev.now _))))
    · refine Ev.pos (by omega) (Ev.pos (by omega) (Ev.pos (by omega) (Ev.neg h1 (Ev.pos (by omega) (Ev.pos (by omega) (Ev.pos (by omega) ?_))))))
      exact ih (8 * q + r + 1) _ (by rw [List.length_set]; exact ho) (by omega)
theorem not_bin {l : List Int} (h : ¬ l.all (fun x => decide (x ≤ 1)) = true) : ∃ j, j < l.length ∧ l.getD j 0 > 1 := by
  rw [Bool.not_eq_true, List.all_eq_false] at h
  obtain ⟨x, hx, h1⟩ := h
  obtain ⟨j, hj, rfl⟩ := List.mem_iff_getElem.1 hx
  refine ⟨j, hj, ?_⟩
  rw [List.getD_eq_getElem?_getD, List.getElem?_eq_getElem hj]
  simpa using h1
theorem pack_is {l : List Int} (hb : Bytes l) (hl : l.length ≤ 1000000000) : Ev (fun k => bits_Pack.f k l) (packOf l) := by
  unfold bits_Pack.f packOf
  by_cases h0 : (l.length : Int) > 16777216
  · rw [if_pos h0]; exact Ev.pos h0 (Ev.now _)
  rw [if_neg h0]
  refine Ev.neg h0 ?_
  have e : wrap64 (Int.tdiv (wrap64 ((l.length : Int) + 7)) 8) = (((l.length + 7) / 8 : Nat) : Int) := by
    rw [wrap64_of (x := (l.length : Int) + 7) (by omega) (by omega), Int.tdiv_eq_ediv_of_nonneg (by omega), wrap64_of (by omega) (by omega)]
    omega
  rw [e]
  refine Ev.pos (by omega) (Ev.pos (by simp only [Int.toNat_natCast]; omega) ?_)
  rw [Int.toNat_natCast]
  by_cases h1 : l.all (fun x => decide (x ≤ 1)) = true
  · rw [if_pos h1, ← partly_zero]
    exact pack_ok (bin_of_all hb h1) hl l.length 0 (by omega)
  · rw [if_neg h1]
    obtain ⟨j, hj, hx⟩ := not_bin h1
    exact pack_err hl hj hx j 0 _ (by rw [List.length_replicate]; omega) (by omega)

/-- The document's. -/
theorem ref_packed_inner {l : List Int} (h : Bin l) (hl : l.length ≤ 1000000000) (o : List Int) (j : Nat) (hj : 8 * j < l.length) {r : List Int}
    (hnext : Ev (fun k => reedpiperef01_Packed.l0 k l (o ++ [hv l j 8]) ((8 * (j + 1) : Nat) : Int)) r) (ho : o.length ≤ 1000000000) (d : Nat) : ∀ m : Nat, m + d = 8 →
    Ev (fun k => reedpiperef01_Packed.l1 k l o ((8 * j : Nat) : Int) (hv l j m) m) r := by
  induction d with
  | zero =>
    intro m hm
    obtain rfl : m = 8 := by omega
    refine Ev.succ ?_
    simp only [reedpiperef01_Packed.l1]
    have hv8 := hv_bound h j 8
    have h256 : (2 : Int) ^ 8 = 256 := by decide
    have e1 : hv l j 8 % 256 = hv l j 8 := by omega
    have e2 : wrap64 (((8 * j : Nat) : Int) + 8) = ((8 * (j + 1) : Nat) : Int) := by rw [wrap64_of (by omega) (by omega)]; omega
    rw [e1, e2]
    exact Ev.neg (by omega) (Ev.pos (by omega) hnext)
  | succ d ih =>
    intro m hm
    refine Ev.succ ?_
    simp only [reedpiperef01_Packed.l1]
    have hb := hv_bound h j m
    have h8 : (2 : Int) ^ m ≤ 2 ^ 8 := pow2_mono (by omega)
    have h256 : (2 : Int) ^ 8 = 256 := by decide
    have hc := h.getD (8 * j + m)
    have e1 : wrap64 (((8 * j : Nat) : Int) + (m : Int)) = ((8 * j + m : Nat) : Int) := by rw [wrap64_of (by omega) (by omega)]; omega
    have e2 : wrap64 ((m : Int) + 1) = ((m + 1 : Nat) : Int) := by rw [wrap64_of (by omega) (by omega)]; omega
    rw [e1, e2, wrap64_of (x := 2 * hv l j m) (by omega) (by omega)]
    simp only [rd_nat]
    have h2 := ih (m + 1) (by omega)
    refine Ev.pos (by omega) ?_
    by_cases hlt : 8 * j + m < l.length
    · refine Ev.pos (by omega) (Ev.pos (by omega) ?_)
      rw [wrap64_of (x := l.getD (8 * j + m) 0) (by omega) (by omega), wrap64_of (by omega) (by omega)]
      exact h2
    · refine Ev.neg (by omega) ?_
      have e3 : hv l j (m + 1) = 2 * hv l j m := by
        simp only [hv]
        rw [List.getD_eq_getElem?_getD, List.getElem?_eq_none (by omega)]
        simp
      rw [e3] at h2
      exact h2
theorem range_snoc (n : Nat) (f : Nat → Int) : (List.range (n + 1)).map f = (List.range n).map f ++ [f n] := by rw [List.range_succ, List.map_append]; rfl
theorem ref_packed_loop {l : List Int} (h : Bin l) (hl : l.length ≤ 1000000000) (d : Nat) : ∀ j : Nat, j + d = (l.length + 7) / 8 →
    Ev (fun k => reedpiperef01_Packed.l0 k l ((List.range j).map fun j => hv l j 8) ((8 * j : Nat) : Int)) (packed l) := by
  induction d with
  | zero =>
    intro j hj
    refine Ev.succ ?_
    simp only [reedpiperef01_Packed.l0]
    refine Ev.neg (by omega) ?_
    have : j = (l.length + 7) / 8 := by omega
    rw [this]
    exact Ev.now _
  | succ d ih =>
    intro j hj
    refine Ev.succ ?_
    simp only [reedpiperef01_Packed.l0]
    refine Ev.pos (by omega) ?_
    have h2 := ih (j + 1) (by omega)
    rw [range_snoc] at h2
    have h3 := ref_packed_inner h hl ((List.range j).map fun j => hv l j 8) j (by omega) h2 (by simp; omega) 8 0 (by omega)
    simpa [hv] using h3
theorem ref_check {l : List Int} (hl : l.length ≤ 1000000000) (h : l.all (fun x => decide (x ≤ 1)) = true) {r : List Int} (hr : Ev (fun k => reedpiperef01_Packed.f k l) r) (d : Nat) : ∀ i : Nat, i + d = l.length → Ev (fun k => reedpiperef01_Pack.l0 k l i) (r, 0) := by
  induction d with
  | zero =>
    intro i hi
    refine Ev.succ ?_
    simp only [reedpiperef01_Pack.l0]
    exact Ev.neg (by omega) (Ev.bind hr (Ev.now _))
  | succ d ih =>
    intro i hi
    refine Ev.succ ?_
    simp only [reedpiperef01_Pack.l0, rd_nat]
    have h1 : l.getD i 0 ≤ 1 := by
      rw [List.getD_eq_getElem?_getD, List.getElem?_eq_getElem (by omega : i < l.length)]
      simpa using List.all_eq_true.1 h _ (List.getElem_mem (by omega : i < l.length))
    rw [wrap64_of (by omega) (by omega)]
    exact Ev.pos (by omega) (Ev.pos (by omega) (Ev.neg (by omega) (ih (i + 1) (by omega))))
theorem ref_check_err {l : List Int} (hl : l.length ≤ 1000000000) {j : Nat} (hj : j < l.length) (hx : l.getD j 0 > 1) (d : Nat) : ∀ i : Nat, i + d = j → Ev (fun k => reedpiperef01_Pack.l0 k l i) ([], 8) := by
  induction d with
  | zero =>
    intro i hi
    obtain rfl : i = j := by omega
    refine Ev.succ ?_
    simp only [reedpiperef01_Pack.l0, rd_nat]
    exact Ev.pos (by omega) (Ev.pos (by omega) (Ev.pos hx (Ev.now _)))
  | succ d ih =>
    intro i hi
    refine Ev.succ ?_
    simp only [reedpiperef01_Pack.l0, rd_nat]
    rw [wrap64_of (by omega) (by omega)]
    by_cases h1 : l.getD i 0 > 1
    · exact Ev.pos (by omega) (Ev.pos (by omega) (Ev.pos h1 (Ev.now _)))
    · exact Ev.pos (by omega) (Ev.pos (by omega) (Ev.neg h1 (ih (i + 1) (by omega))))
theorem ref_pack_is {l : List Int} (hb : Bytes l) (hl : l.length ≤ 1000000000) : Ev (fun k => reedpiperef01_Pack.f k l) (packOf l) := by
  unfold reedpiperef01_Pack.f packOf
  by_cases h0 : (l.length : Int) > 16777216
  · rw [if_pos h0]; exact Ev.pos h0 (Ev.now _)
  rw [if_neg h0]
  refine Ev.neg h0 ?_
  by_cases h1 : l.all (fun x => decide (x ≤ 1)) = true
  · rw [if_pos h1]
    refine ref_check hl h1 ?_ l.length 0 (by omega)
    unfold reedpiperef01_Packed.f
    have := ref_packed_loop (bin_of_all hb h1) hl ((l.length + 7) / 8) 0 (by omega)
    simpa using this
  · rw [if_neg h1]
    obtain ⟨j, hj, hx⟩ := not_bin h1
    exact ref_check_err hl hj hx j 0 (by omega)

/-- Bytes as bits. -/
def opened (l : List Int) : List Int := l.flatMap fun c => bitsOf c 8
def openOf (l : List Int) : List Int × Int := if (l.length : Int) > 2097152 then ([], 3) else (opened l, 0)
theorem flat_congr {f g : Int → List Int} : ∀ {l : List Int}, (∀ x ∈ l, f x = g x) → l.flatMap f = l.flatMap g
  | [], _ => rfl
  | c :: l, h => by
    rw [List.flatMap_cons, List.flatMap_cons, h c List.mem_cons_self, flat_congr (fun x hx => h x (List.mem_cons_of_mem _ hx))]
theorem opened_wrap {l : List Int} (hb : Bytes l) : (l.flatMap fun c => bitsOf (wrap64 c) 8) = opened l :=
  flat_congr (g := fun c => bitsOf c 8) fun x hx => congrArg (fun z => bitsOf z 8) (wrap_byte (hb x hx))
theorem opened_length (l : List Int) : (opened l).length = 8 * l.length := by
  unfold opened
  induction l with
  | nil => rfl
  | cons c l ih => rw [List.flatMap_cons, List.length_append, ih, bitsOf_length, List.length_cons]; omega
theorem unpack_is {l : List Int} (hb : Bytes l) : bits_Unpack.f l = some (openOf l) := by
  unfold bits_Unpack.f openOf
  rw [opened_wrap hb]
  split <;> rfl
theorem ref_open_loop {l : List Int} (hb : Bytes l) (hl : l.length ≤ 1000000000) (d : Nat) : ∀ i : Nat, i + d = l.length → Ev (fun k => reedpiperef01_Opened.l0 k l (opened (l.take i)) i) (opened l) := by
  induction d with
  | zero =>
    intro i hi
    refine Ev.succ ?_
    simp only [reedpiperef01_Opened.l0]
    refine Ev.neg (by omega) ?_
    rw [List.take_of_length_le (by omega)]
    exact Ev.now _
  | succ d ih =>
    intro i hi
    refine Ev.succ ?_
    simp only [reedpiperef01_Opened.l0, rd_nat]
    have hc := hb.getD i
    have h2 := ih (i + 1) (by omega)
    have e : opened (l.take (i + 1)) = opened (l.take i) ++ bitsOf (l.getD i 0) 8 := by
      rw [List.take_succ_eq_append_getElem (by omega : i < l.length), List.getD_eq_getElem?_getD, List.getElem?_eq_getElem (by omega : i < l.length)]
      unfold opened
      rw [List.flatMap_append, List.flatMap_cons, List.flatMap_nil, List.append_nil, Option.getD_some]
    rw [e] at h2
    rw [wrap64_of (x := l.getD i 0) (by omega) (by omega), wrap64_of (by omega) (by omega)]
    refine Ev.pos (by omega) (Ev.pos (by omega) (Ev.bind (ref_bits_is 8 (by omega) (by omega) (by omega)) (Ev.pos ?_ h2)))
    rw [opened_length, bitsOf_length, List.length_take]
    omega
theorem ref_unpack_is {l : List Int} (hb : Bytes l) (hl : l.length ≤ 1000000000) : Ev (fun k => reedpiperef01_Unpack.f k l) (openOf l) := by
  unfold reedpiperef01_Unpack.f openOf
  by_cases h0 : (l.length : Int) > 2097152
  · rw [if_pos h0]; exact Ev.pos h0 (Ev.now _)
  rw [if_neg h0]
  refine Ev.neg h0 (Ev.bind ?_ (Ev.now _))
  unfold reedpiperef01_Opened.f
  simpa [opened] using ref_open_loop hb hl l.length 0 (by omega)
end Go.Proofs.Ytccnicigldjcdaa.Q
