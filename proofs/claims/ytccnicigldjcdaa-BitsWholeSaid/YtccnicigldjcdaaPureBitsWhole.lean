/- BitsWhole: what is unpacked is packed as it was, and what is packed is unpacked as it was, but for at most seven noughts behind; for any bytes: no condition. -/
import Derived.Test.YtccnicigldjcdaaQPack
import Derived.Test.YtccnicigldjcdaaQAlive
import Derived.Test.YtccnicigldjcdaaPBitsx23
namespace Go.Proofs.Ytccnicigldjcdaa.Pure
open Go.RowKit Go.Proofs.Ytccnicigldjcdaa.H Go.Proofs.Ytccnicigldjcdaa.Q Go.Proofs.Ytccnicigldjcdaa.PBits Go.Proofs.YtccnicigldjcdaaW.PrintWords Go.Proofs.YtccnicigldjcdaaW.PrintMore
set_option linter.unusedVariables false
set_option linter.unusedSimpArgs false
theorem opened_drop : ∀ (j : Nat) (l : List Int), (opened l).drop (8 * j) = opened (l.drop j)
  | 0, l => by simp
  | j + 1, [] => by simp [opened]
  | j + 1, c :: l => by
    have ih := opened_drop j l
    have e : opened (c :: l) = bitsOf c 8 ++ opened l := by unfold opened; rw [List.flatMap_cons]
    rw [e, show 8 * (j + 1) = (bitsOf c 8).length + 8 * j by rw [bitsOf_length]; omega, List.drop_append, List.drop_eq_nil_of_le (by omega), List.nil_append, Nat.add_sub_cancel_left, ih, List.drop_succ_cons]
theorem opened_at {l : List Int} {j : Nat} (hj : j < l.length) (m : Nat) (hm : m < 8) : (opened l).getD (8 * j + m) 0 = (bitsOf (l.getD j 0) 8).getD m 0 := by
  have e1 : (opened l).getD (8 * j + m) 0 = ((opened l).drop (8 * j)).getD m 0 := by simp only [List.getD_eq_getElem?_getD, List.getElem?_drop]
  have e2 : l.drop j = l.getD j 0 :: l.drop (j + 1) := by
    rw [List.getD_eq_getElem?_getD, List.getElem?_eq_getElem hj]
    exact List.drop_eq_getElem_cons hj
  have e3 : opened (l.getD j 0 :: l.drop (j + 1)) = bitsOf (l.getD j 0) 8 ++ opened (l.drop (j + 1)) := by unfold opened; rw [List.flatMap_cons]
  rw [e1, opened_drop, e2, e3]
  simp only [List.getD_eq_getElem?_getD]
  rw [List.getElem?_append_left (by rw [bitsOf_length]; omega)]
theorem take_snoc' (l : List Int) (m : Nat) (h : m < l.length) : l.take (m + 1) = l.take m ++ [l.getD m 0] := by
  rw [List.take_succ_eq_append_getElem h, List.getD_eq_getElem?_getD, List.getElem?_eq_getElem h]
  rfl
theorem hv_opened {l : List Int} {j : Nat} (hj : j < l.length) : ∀ m : Nat, m ≤ 8 → hv (opened l) j m = Q.valOf ((bitsOf (l.getD j 0) 8).take m)
  | 0, _ => by simp [hv, Q.valOf_nil]
  | m + 1, h => by
    have ih := hv_opened hj m (by omega)
    rw [take_snoc' _ m (by rw [bitsOf_length]; omega), Q.valOf_snoc, ← ih, ← opened_at hj m (by omega)]
    rfl
/-- What is unpacked is packed as it was. -/
theorem packed_opened {l : List Int} (hb : Bytes l) : packed (opened l) = l := by
  apply List.ext_getElem
  · simp [packed, opened_length]; omega
  · intro j h1 h2
    simp only [packed, List.getElem_map, List.getElem_range]
    have hc := hb.getD j
    have e : l.getD j 0 = l[j] := by rw [List.getD_eq_getElem?_getD, List.getElem?_eq_getElem h2]; rfl
    rw [hv_opened h2 8 (by omega), List.take_of_length_le (by rw [bitsOf_length]; omega), Q.valOf_bitsOf 8 hc.1 (by omega) (by omega), e]
theorem opened_bin {l : List Int} (hb : Bytes l) : Bin (opened l) := fun x hx => by
  obtain ⟨c, hc, hx⟩ := List.mem_flatMap.1 hx
  have := hb c hc
  exact bitsOf_bin this.1 (by omega) 8 x hx
theorem hv_eight {l : List Int} (h : Bin l) (j : Nat) : ∀ m : Nat, m ≤ 8 → hv l j m = Q.valOf ((List.range m).map fun i => l.getD (8 * j + i) 0)
  | 0, _ => by simp [hv, Q.valOf_nil]
  | m + 1, hm => by rw [range_snoc, Q.valOf_snoc, ← hv_eight h j m (by omega)]; rfl
theorem bits_eight {l : List Int} (h : Bin l) (j : Nat) : bitsOf (hv l j 8) 8 = (List.range 8).map fun i => l.getD (8 * j + i) 0 := by
  rw [hv_eight h j 8 (by omega)]
  have hB : Bin ((List.range 8).map fun i => l.getD (8 * j + i) 0) := fun x hx => by
    obtain ⟨i, _, rfl⟩ := List.mem_map.1 hx
    exact h.getD _
  have := bitsOf_valOf hB (by simp)
  simpa using this
theorem opened_packed_at {l : List Int} (h : Bin l) (i : Nat) (hi : i < 8 * ((l.length + 7) / 8)) : (opened (packed l)).getD i 0 = l.getD i 0 := by
  obtain ⟨j, m, hm, rfl⟩ : ∃ j m, m < 8 ∧ i = 8 * j + m := ⟨i / 8, i % 8, Nat.mod_lt _ (by decide), by omega⟩
  have hj : j < (packed l).length := by simp [packed]; omega
  have e : (packed l).getD j 0 = hv l j 8 := by
    rw [List.getD_eq_getElem?_getD, List.getElem?_eq_getElem hj]
    simp [packed]
  rw [opened_at hj m hm, e, bits_eight h j, List.getD_eq_getElem?_getD, List.getElem?_map, List.getElem?_range hm]
  rfl
theorem packed_bytes {l : List Int} (h : Bin l) : Bytes (packed l) := fun x hx => by
  obtain ⟨j, _, rfl⟩ := List.mem_map.1 hx
  have := hv_bound h j 8
  have h2 : (2 : Int) ^ 8 = 256 := by decide
  omega
theorem whole_end (v : List Int) (n : Nat) (hv : v.length ≤ 1000000) (hz : ∀ i, n ≤ i → v.getD i 0 = 0) (d : Nat) : ∀ i : Nat, n ≤ i → i + d = v.length → Ev (fun k => reedpipelaw01_BitsWhole.l0 k v i) true := by
  induction d with
  | zero =>
    intro i hn hi
    refine Ev.succ ?_
    simp only [reedpipelaw01_BitsWhole.l0]
    exact Ev.neg (by omega) (Ev.now _)
  | succ d ih =>
    intro i hn hi
    refine Ev.succ ?_
    simp only [reedpipelaw01_BitsWhole.l0, rd_nat]
    rw [hz i hn, wrap64_of (by omega) (by omega)]
    exact Ev.pos (by omega) (Ev.pos (by omega) (Ev.pos (by trivial) (ih (i + 1) (by omega) (by omega))))

theorem BitsWhole : reedpipelaw01_BitsWhole.Pure := by
  intro l hm hl hw
  have hb := bytes_of_wf hw
  refine Ev.rounds ?_
  unfold reedpipelaw01_BitsWhole.f
  refine Ev.bind alive_is ?_
  by_cases h0 : (l.length : Int) > 10000
  · refine Ev.pos h0 (Ev.succ ?_)
    simp only [reedpipelaw01_BitsWhole.j0, if_true]
    exact Ev.now _
  refine Ev.neg h0 (Ev.succ ?_)
  simp only [reedpipelaw01_BitsWhole.j0, Bool.not_true]
  refine Ev.neg (by simp) ?_
  have o : openOf l = (opened l, 0) := by unfold openOf; rw [if_neg (by omega)]
  rw [unpack_is hb, o]
  simp only [Option.bind_some]
  have hbo := opened_bin hb
  have hol := opened_length l
  have p : packOf (opened l) = (l, 0) := by
    unfold packOf
    rw [if_neg (by omega), if_pos (all_of_bin hbo), packed_opened hb]
  refine Ev.bind (pack_is hbo.bytes (by omega)) ?_
  rw [p]
  refine Ev.pos (by trivial) (Ev.pos rfl (Ev.pos rfl ?_))
  have e : (((opened l).length : Int) != wrap64 (8 * (l.length : Int))) = false := by
    rw [bne_eq_false_iff_eq, hol, wrap64_of (by omega) (by omega)]
    omega
  rw [e]
  refine Ev.succ ?_
  simp only [reedpipelaw01_BitsWhole.j1]
  refine Ev.neg (by simp) (Ev.bind (pack_is hb (by omega)) ?_)
  by_cases h1 : l.all (fun x => decide (x ≤ 1)) = true
  · have hB := bin_of_all hb h1
    have p2 : packOf l = (packed l, 0) := by unfold packOf; rw [if_neg (by omega), if_pos h1]
    have hpl : (packed l).length = (l.length + 7) / 8 := by simp [packed]
    have o2 : openOf (packed l) = (opened (packed l), 0) := by unfold openOf; rw [if_neg (by omega)]
    have hvl : (opened (packed l)).length = 8 * ((l.length + 7) / 8) := by rw [opened_length, hpl]
    rw [p2]
    refine Ev.pos rfl ?_
    rw [unpack_is (packed_bytes hB), o2]
    simp only [Option.bind_some]
    refine Ev.pos (by trivial) (Ev.neg (by omega) (Ev.neg (by rw [wrap64_of (by omega) (by omega)]; omega) (Ev.pos (by omega) (Ev.pos (by omega) ?_))))
    have ht : (opened (packed l)).take l.length = l := by
      apply List.ext_getElem
      · rw [List.length_take]; omega
      · intro i h2 h3
        have := opened_packed_at hB i (by omega)
        rw [List.getD_eq_getElem?_getD, List.getD_eq_getElem?_getD, List.getElem?_eq_getElem h3, List.getElem?_eq_getElem (by omega : i < (opened (packed l)).length)] at this
        simpa using this
    rw [Int.toNat_natCast, ht]
    have e3 : ((strOfNums l).toList != (strOfNums l).toList) = false := by rw [bne_eq_false_iff_eq]
    rw [e3]
    refine Ev.succ ?_
    simp only [reedpipelaw01_BitsWhole.j2]
    refine Ev.neg (by simp) ?_
    refine whole_end _ l.length (by omega) (fun i hi => ?_) ((opened (packed l)).length - l.length) l.length (Nat.le_refl _) (by omega)
    by_cases h4 : i < 8 * ((l.length + 7) / 8)
    · rw [opened_packed_at hB i h4, List.getD_eq_getElem?_getD, List.getElem?_eq_none hi]
      rfl
    · rw [List.getD_eq_getElem?_getD, List.getElem?_eq_none (by omega)]
      rfl
  · have p2 : packOf l = ([], 8) := by unfold packOf; rw [if_neg (by omega), if_neg h1]
    rw [p2]
    refine Ev.neg (by simp) ?_
    simpa using Ev.now true
end Go.Proofs.Ytccnicigldjcdaa.Pure
