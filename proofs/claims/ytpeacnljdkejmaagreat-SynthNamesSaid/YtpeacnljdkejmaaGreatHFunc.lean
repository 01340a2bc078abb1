/- slices.IndexFunc and slices.ContainsFunc at ints, whatever the function. -/
import Derived.Test.YtpeacnljdkejmaaGreatProg
import Derived.Test.YtpeacnljdkejmaaGreatHKit
namespace Go.Proofs.YtpeacnljdkejmaaGreat.H
open Go.RowKit Go.Shelf Go.Proofs.YtpeacnljdkejmaaGreatW.PrintWords Go.Proofs.YtpeacnljdkejmaaGreatW.PrintMore
set_option linter.unusedVariables false
set_option linter.unusedSimpArgs false

/-- Where the first one lies; below 0: nowhere. -/
def firstOf {α : Type} (p : α → Bool) : List α → Int
  | [] => -1
  | x :: l => if p x then 0 else (if firstOf p l < 0 then -1 else firstOf p l + 1)

set_option maxRecDepth 100000 in
set_option maxHeartbeats 1000000 in
theorem indexFunc_calls (g : Nat) (caps : Array Value) (eg : ∀ args w, (callFunc g args).run Tryz.prog w = .ok (.enter g args) w) (p : Int → Bool) (A : Option Addr) (c : Nat) (l : List Int) (w : World)
    (hr : Kd.C (Kd.int .i64) w A l.length l) (hl : l.length ≤ 140737488355328)
    (hp : ∀ W, ∀ x ∈ l, Below w.heap.size w W → Calls Tryz.prog g (#[.int .i64 x] ++ caps) W fun e W' => e = .returned (.bool (p x)) ∧ Below W.heap.size W W') :
    Calls Tryz.prog 67 #[.slice A l.length c, .func (.func g) #[] caps] w fun e w' => (∃ r : Int, e = .returned (.int .i64 r) ∧ (decide (0 ≤ r) = l.any p)) ∧ Below w.heap.size w w' := by
  have HR := Aside0.mk hr
  clear hr
  go_enter Tryz.func67, Tryz.ntmps67
  go_wp2
  go_loopw [8] (fun i wr => ∃ k : Nat, i = .int .i64 (k : Int) ∧ k ≤ l.length ∧ Aside0 ((l.take k).any p = false) ∧ Aside0 (Below w.heap.size w wr))
    (fun i _ => l.length - (intOf i).toNat)
  case atStart => exact ⟨0, rfl, Nat.zero_le _, ⟨by simp⟩, ⟨Below.refl _ _⟩⟩
  case round =>
    obtain ⟨k, rfl, hk, HF, HB⟩ := hrel
    by_cases hlt : k < l.length
    · obtain ⟨ad, rfl, hcell⟩ := C_at (Kd.C_below HR.out HB.out) k hlt
      have hx : l.getD k 0 = l[k] := by simp [hlt]
      rw [hx] at hcell
      have hm : l[k] ∈ l := List.getElem_mem hlt
      go_wp2
      refine (hp _ _ hm HB.out).mono ?_
      rintro e W2 ⟨rfl, hb⟩
      have HB2 := Aside0.mk (below_then HB.out HB.out.size hb)
      clear hb
      cases hpx : p l[k]
      · go_wp2
        go_roundw
        case rel => exact ⟨k + 1, rfl, by omega, ⟨by rw [List.take_succ_eq_append_getElem hlt, List.any_append, HF.out]; simp [hpx]⟩, HB2⟩
        case measure => simp [intOf]; omega
      · go_wp2
        go_ret
        exact ⟨⟨k, rfl, by have h1 : l.any p = true := List.any_eq_true.2 ⟨_, hm, hpx⟩; rw [h1]; simp⟩, HB2.out⟩
    · have hkl : k = l.length := by omega
      subst hkl
      go_wp2
      go_ret
      exact ⟨⟨-1, rfl, by have := HF.out; simp at this; simpa using this⟩, HB.out⟩

theorem containsFunc_calls (g : Nat) (caps : Array Value) (eg : ∀ args w, (callFunc g args).run Tryz.prog w = .ok (.enter g args) w) (p : Int → Bool) (A : Option Addr) (c : Nat) (l : List Int) (w : World)
    (hr : Kd.C (Kd.int .i64) w A l.length l) (hl : l.length ≤ 140737488355328)
    (hp : ∀ W, ∀ x ∈ l, Below w.heap.size w W → Calls Tryz.prog g (#[.int .i64 x] ++ caps) W fun e W' => e = .returned (.bool (p x)) ∧ Below W.heap.size W W') :
    Calls Tryz.prog 38 #[.slice A l.length c, .func (.func g) #[] caps] w fun e w' => e = .returned (.bool (l.any p)) ∧ Below w.heap.size w w' := by
  go_enter Tryz.func38, Tryz.ntmps38
  go_wp2_with (go_at_call 67; refine (indexFunc_calls g caps eg p A c l w hr hl hp).mono ?_; rintro e w' ⟨⟨r, rfl, hr'⟩, hb⟩; have HE := Aside0.mk hr'; have HB := Aside0.mk hb; clear hr' hb)
  go_ret
  exact ⟨congrArg (fun b => Ending.returned (Value.bool b)) HE.out, HB.out⟩

theorem lapFar_calls (x : Int) (w : World) : Calls Tryz.prog 37 #[.int .i64 x] w fun e w' => e = .returned (.bool (decide (x < -1099511627776 ∨ 1099511627776 < x))) ∧ Below w.heap.size w w' := by
  go_enter Tryz.func37, Tryz.ntmps37
  by_cases h : x < -1099511627776
  · go_wp2
    go_ret
    exact ⟨by simp [h], Below.refl _ _⟩
  · go_wp2
    go_ret
    exact ⟨congrArg (fun b => Ending.returned (Value.bool b)) (by simp; omega), Below.refl _ _⟩
end Go.Proofs.YtpeacnljdkejmaaGreat.H
