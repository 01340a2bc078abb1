/- BitsBack: what is put is got, whatever stands around it, and what is got is put as these bits; for any number, size, bytes around, and place: no condition. -/
import Derived.Test.YtccnicigldjcdaaQPut
import Derived.Test.YtccnicigldjcdaaQAlive
import Derived.Test.YtccnicigldjcdaaPBitsx20
namespace Go.Proofs.Ytccnicigldjcdaa.Pure
open Go.RowKit Go.Proofs.Ytccnicigldjcdaa.H Go.Proofs.Ytccnicigldjcdaa.Q Go.Proofs.Ytccnicigldjcdaa.PBits Go.Proofs.YtccnicigldjcdaaW.PrintWords Go.Proofs.YtccnicigldjcdaaW.PrintMore
set_option linter.unusedVariables false
set_option linter.unusedSimpArgs false
/-- What is put is got. -/
theorem get_of_put (ahead behind : List Int) {n : Int} (s : Nat) (h0 : 0 ≤ n) (h1 : n < 2 ^ s) (hs : s ≤ 31) (hn : n < 9223372036854775808) :
    getOf (ahead ++ bitsOf n s ++ behind) (ahead.length : Int) (s : Int) = (n, (ahead.length : Int) + s, 0) := by
  have hcut : ((ahead ++ bitsOf n s ++ behind).drop ahead.length).take s = bitsOf n s := by
    rw [List.append_assoc, List.drop_left, List.take_left' (bitsOf_length n s)]
  unfold getOf
  simp only [Int.toNat_natCast]
  rw [if_pos (by simp [bitsOf_length]; omega), if_neg (by simp [bitsOf_length]; omega), hcut, all_of_bin (bitsOf_bin h0 hn s), valOf_bitsOf s h0 hn h1]
  simp
theorem back_tail (behind : List Int) (a s : Int) (hb : Bytes behind) (hl : behind.length ≤ 1000) (ha : -9223372036854775808 ≤ a ∧ a ≤ 9223372036854775807) (hs : -9223372036854775808 ≤ s ∧ s ≤ 9223372036854775807) :
    Ev (fun k => reedpipelaw01_BitsBack.j1 k s behind a) true := by
  refine Ev.succ ?_
  simp only [reedpipelaw01_BitsBack.j1]
  refine Ev.bind (get_is behind a s hb (by omega) ha hs) ?_
  by_cases h : 0 ≤ s ∧ s ≤ 31 ∧ 0 ≤ a ∧ a ≤ (behind.length : Int)
  · by_cases h2 : (behind.length : Int) - a < s
    · have e : getOf behind a s = (0, 0, 5) := by unfold getOf; rw [if_pos h, if_pos h2]
      rw [e]
      exact Ev.neg (by simp) (Ev.pos rfl (by simpa using Ev.now true))
    · obtain ⟨a, rfl⟩ := Int.eq_ofNat_of_zero_le h.2.2.1
      obtain ⟨s, rfl⟩ := Int.eq_ofNat_of_zero_le h.1
      by_cases h3 : ((behind.drop a).take s).all (fun x => decide (x ≤ 1)) = true
      · have e : getOf behind a s = (Q.valOf ((behind.drop a).take s), (a : Int) + s, 0) := by
          unfold getOf
          simp only [Int.toNat_natCast]
          rw [if_pos h, if_neg h2, if_pos h3]
        have hB := bin_of_all (hb.cut a s) h3
        have hlen : ((behind.drop a).take s).length = s := by rw [List.length_take, List.length_drop]; omega
        have hv := valOf_bound hB
        rw [hlen] at hv
        have hback := bitsOf_valOf hB (by omega)
        rw [hlen] at hback
        have p : putOf [] (Q.valOf ((behind.drop a).take s)) (s : Int) = ((behind.drop a).take s, 0) := by
          unfold putOf
          simp only [Int.toNat_natCast]
          rw [if_pos ⟨by omega, by omega, hv.1, hv.2⟩, List.nil_append, hback]
        rw [e]
        refine Ev.pos rfl ?_
        rw [put_is _ _ _ (by simp), p]
        simp only [Option.bind_some]
        refine Ev.pos (by trivial) (Ev.pos (by omega) (Ev.pos (by omega) (Ev.pos (by omega) ?_)))
        have e2 : (behind.take ((a : Int) + (s : Int)).toNat).drop (a : Int).toNat = (behind.drop a).take s := by
          rw [Int.toNat_natCast, show ((a : Int) + (s : Int)).toNat = a + s by omega, List.take_drop]
        rw [e2, beq_self_eq_true]
        exact Ev.now _
      · have e : getOf behind a s = (0, 0, 8) := by
          unfold getOf
          simp only [Int.toNat_natCast]
          rw [if_pos h, if_neg h2, if_neg h3]
        rw [e]
        exact Ev.neg (by simp) (Ev.pos rfl (by simpa using Ev.now true))
  · have e : getOf behind a s = (0, 0, 2) := by unfold getOf; rw [if_neg h]
    rw [e]
    exact Ev.neg (by simp) (Ev.pos rfl (by simpa using Ev.now true))

theorem BitsBack : reedpipelaw01_BitsBack.Pure := by
  intro n s ahead behind a hn hs hm2 hl2 hw2 hm3 hl3 hw3 ha
  have hn := i64_of_wf hn
  have hs := i64_of_wf hs
  have ha := i64_of_wf ha
  have hb2 := bytes_of_wf hw2
  have hb3 := bytes_of_wf hw3
  refine Ev.rounds ?_
  unfold reedpipelaw01_BitsBack.f
  refine Ev.bind alive_is ?_
  have out : Ev (fun k => reedpipelaw01_BitsBack.j0 k n s ahead behind a true true) true := by
    refine Ev.succ ?_
    simp only [reedpipelaw01_BitsBack.j0, if_true]
    exact Ev.now _
  by_cases h2 : (ahead.length : Int) > 1000
  · exact Ev.pos h2 out
  refine Ev.neg h2 ?_
  by_cases h3 : (behind.length : Int) > 1000
  · exact Ev.pos h3 out
  refine Ev.neg h3 (Ev.succ ?_)
  have tail := back_tail behind a s hb3 (by omega) ha hs
  simp only [reedpipelaw01_BitsBack.j0, Bool.not_true]
  refine Ev.neg (by simp) ?_
  rw [put_is _ _ _ (by omega)]
  simp only [Option.bind_some]
  by_cases h : 0 ≤ s ∧ s ≤ 31 ∧ 0 ≤ n ∧ n < 2 ^ s.toNat
  · obtain ⟨s, rfl⟩ := Int.eq_ofNat_of_zero_le h.1
    simp only [Int.toNat_natCast] at h
    have p : putOf ahead n (s : Int) = (ahead ++ bitsOf n s, 0) := by
      unfold putOf
      simp only [Int.toNat_natCast]
      rw [if_pos h]
    rw [p]
    have hlen : (ahead ++ bitsOf n s).length = ahead.length + s := by rw [List.length_append, bitsOf_length]
    refine Ev.pos rfl (Ev.pos (by simp [bitsOf_length]; omega) (Ev.pos (by simp [bitsOf_length]; omega) ?_))
    rw [List.nil_append]
    have hbin := (bitsOf_bin h.2.2.1 (by omega) s).bytes
    refine Ev.bind (get_is (ahead ++ bitsOf n s ++ behind) ahead.length s ((hb2.append hbin).append hb3) (by simp [bitsOf_length]; omega) (by omega) (by omega)) ?_
    rw [get_of_put ahead behind s h.2.2.1 h.2.2.2 (by omega) (by omega)]
    refine Ev.pos rfl (Ev.pos rfl (Ev.pos (by simp [bitsOf_length]) (Ev.pos ?_ (Ev.pos (by omega) (Ev.pos (by simp [bitsOf_length]; omega) (Ev.pos ?_ tail))))))
    · rw [wrap64_of (by omega) (by omega), hlen]; simp
    · rw [Int.toNat_natCast, List.take_left]
  · have p : putOf ahead n s = ([], 2) := by unfold putOf; rw [if_neg h]
    rw [p]
    exact Ev.neg (by simp) tail
end Go.Proofs.Ytccnicigldjcdaa.Pure
