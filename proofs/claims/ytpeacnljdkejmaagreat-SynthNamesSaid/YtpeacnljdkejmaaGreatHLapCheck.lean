/- lap.Check. -/
import Derived.Test.YtpeacnljdkejmaaGreatHFunc
namespace Go.Proofs.YtpeacnljdkejmaaGreat.H
open Go.RowKit Go.Shelf Go.Proofs.YtpeacnljdkejmaaGreatW.PrintWords Go.Proofs.YtpeacnljdkejmaaGreatW.PrintMore
set_option linter.unusedVariables false
set_option linter.unusedSimpArgs false

def farLap (x : Int) : Bool := decide (x < -1099511627776 ∨ 1099511627776 < x)
def lap_Check.f (l : List Int) (s h : Int) : Option Int := some (if l.length ≠ 256 ∨ l.any farLap = true ∨ 3 < s ∨ 1 < h then 8 else 0)

set_option maxRecDepth 100000 in
set_option maxHeartbeats 1000000 in
theorem lap_Check.calls (A0 : Option Addr) (c0 : Nat) (l0 : List Int) (a1 a2 : Int) (r1 : Int) (w : World) (hr0 : Kd.C (Kd.int .i64) w A0 l0.length l0) (hc0 : l0.length ≤ c0) (h : lap_Check.f l0 a1 a2 = some r1) :
    Calls Tryz.prog 22 #[.agg #[.slice A0 l0.length c0, .int .u8 a1, .int .u8 a2]] w fun e w' => e = .returned (.int .i64 r1) ∧ Below w.heap.size w w' := by
  have HR0 := Aside0.mk hr0
  clear hr0
  unfold lap_Check.f at h
  simp only [Option.some.injEq] at h
  have hu := Tryz.underlying52
  go_enter Tryz.func22, Tryz.ntmps22
  by_cases h1 : l0.length = 256
  · have t1 : ((l0.length : Int) != 256) = false := by simp; omega
    have H1 := Aside0.mk h1
    clear h1
    have hw1 : ∀ j u, #[Value.slice A0 l0.length c0, .int .u8 a1, .int .u8 a2][j]? = some u → (w.alloc (.cells #[.slice A0 l0.length c0, .int .u8 a1, .int .u8 a2] 52)).cell? ⟨w.heap.size, j, none⟩ = some u := fun j u e => by
      simp only [World.cell?, heap_alloc_new]
      exact e
    have hcall := containsFunc_calls 37 #[] (enters_of Tryz.func37 (by kernel_rfl) rfl) farLap A0 c0 l0 _ (Kd.C_alloc HR0.out (.cells #[.slice A0 l0.length c0, .int .u8 a1, .int .u8 a2] 52)) (by have := H1.out; omega) (fun W x _ _ => lapFar_calls x W)
    cases hp : l0.any farLap
    · by_cases h2 : 3 < a1
      · go_wp2_with (go_at_call 38; refine hcall.mono ?_; rintro e w' ⟨rfl, hb⟩; have c1 := (hb.cell (p := ⟨w.heap.size, 1, none⟩) (by simp)).trans (hw1 1 _ rfl); have c2 := (hb.cell (p := ⟨w.heap.size, 2, none⟩) (by simp)).trans (hw1 2 _ rfl); have HB := Aside0.mk (((Below.refl _ _).alloc (Nat.le_refl _) _).trans (hb.mono (by simp))); clear hb; rw [hp])
        go_ret
        refine ⟨?_, HB.out⟩
        rw [if_pos (by simp [h2])] at h
        subst h
        rfl
      · by_cases h3 : 1 < a2
        · go_wp2_with (go_at_call 38; refine hcall.mono ?_; rintro e w' ⟨rfl, hb⟩; have c1 := (hb.cell (p := ⟨w.heap.size, 1, none⟩) (by simp)).trans (hw1 1 _ rfl); have c2 := (hb.cell (p := ⟨w.heap.size, 2, none⟩) (by simp)).trans (hw1 2 _ rfl); have HB := Aside0.mk (((Below.refl _ _).alloc (Nat.le_refl _) _).trans (hb.mono (by simp))); clear hb; rw [hp])
          go_ret
          refine ⟨?_, HB.out⟩
          rw [if_pos (by simp [h3])] at h
          subst h
          rfl
        · go_wp2_with (go_at_call 38; refine hcall.mono ?_; rintro e w' ⟨rfl, hb⟩; have c1 := (hb.cell (p := ⟨w.heap.size, 1, none⟩) (by simp)).trans (hw1 1 _ rfl); have c2 := (hb.cell (p := ⟨w.heap.size, 2, none⟩) (by simp)).trans (hw1 2 _ rfl); have HB := Aside0.mk (((Below.refl _ _).alloc (Nat.le_refl _) _).trans (hb.mono (by simp))); clear hb; rw [hp])
          go_ret
          refine ⟨?_, HB.out⟩
          rw [if_neg (by simp [hp, H1.out]; omega)] at h
          subst h
          rfl
    · go_wp2_with (go_at_call 38; refine hcall.mono ?_; rintro e w' ⟨rfl, hb⟩; have c1 := (hb.cell (p := ⟨w.heap.size, 1, none⟩) (by simp)).trans (hw1 1 _ rfl); have c2 := (hb.cell (p := ⟨w.heap.size, 2, none⟩) (by simp)).trans (hw1 2 _ rfl); have HB := Aside0.mk (((Below.refl _ _).alloc (Nat.le_refl _) _).trans (hb.mono (by simp))); clear hb; rw [hp])
      go_ret
      refine ⟨?_, HB.out⟩
      rw [if_pos (by simp [hp])] at h
      subst h
      rfl
  · have t1 : ((l0.length : Int) != 256) = true := by simp; omega
    go_wp2
    go_ret
    refine ⟨?_, (Below.refl _ _).alloc (Nat.le_refl _) _⟩
    rw [if_pos (by simp [h1])] at h
    subst h
    rfl
end Go.Proofs.YtpeacnljdkejmaaGreat.H
