/- Gathered by a program (wip/merge.py): HRepeat, PB0x187, HWin, HWindows, PB0x208, HMinMax, PB1x0. -/
import Derived.Laws.CopyOwn
import Derived.Deep.RegionLaw
import Derived.Test.YtplmmoaljlnbdaaGreatProg
import Derived.Below
import Derived.Deep.Draws
import Derived.Deep.AppendLies
import Derived.Maps.AppendAt
import Derived.OwnWalk
import Derived.Laws.BytesArg
import Derived.Laws.MakeOwn
import Derived.Laws.OwnMore
import Derived.Deep.OwnRows
import Derived.Tactics
import Derived.Lib.ConvBytes
import Derived.Laws.Slices
import Derived.WalkKit
import Derived.KernelRfl
import Derived.RowKit3
import Derived.Deep.LoopGhost
import Derived.Deep.QuietTactic
import Derived.BigQuiet
import Derived.WideLaws
import Derived.Deep.DeepCutAuto
import Derived.Deep.CutBlock
import Derived.Deep.RegionHeld3
import Derived.Laws.Rows
import Derived.Lib.AppendStr
import Derived.ArgAppend
import Derived.Laws.IdiomCopy
import Derived.OrdersHeld
import Derived.Laws.BitsLemmas
import Derived.RowKit
import Derived.Test.YtplmmoaljlnbdaaGreatWWords
import Derived.Test.YtplmmoaljlnbdaaGreatWLast
import Derived.Test.YtplmmoaljlnbdaaGreatWTab
import Derived.Test.YtplmmoaljlnbdaaGreatWFour
import Derived.Test.YtplmmoaljlnbdaaGreatWQPut
import Derived.Test.YtplmmoaljlnbdaaGreatWApart
import Derived.Test.YtplmmoaljlnbdaaGreatWArr
import Derived.Test.YtplmmoaljlnbdaaGreatWZeros
import Derived.Test.YtplmmoaljlnbdaaGreatWFoot
import Derived.Test.YtplmmoaljlnbdaaGreatWKept
import Derived.Test.YtplmmoaljlnbdaaGreatWShare
import Derived.Test.YtplmmoaljlnbdaaGreatWN
import Derived.Test.YtplmmoaljlnbdaaGreatWFootNe
import Derived.Test.YtplmmoaljlnbdaaGreatWAt
import Derived.Test.YtplmmoaljlnbdaaGreatWEqStruct
import Derived.Test.YtplmmoaljlnbdaaGreatWRepsOne
import Derived.Test.YtplmmoaljlnbdaaGreatWInv
import Derived.Test.YtplmmoaljlnbdaaGreatWInvWords
import Derived.Test.YtplmmoaljlnbdaaGreatWGuard
import Derived.Test.YtplmmoaljlnbdaaGreatWNEv
import Derived.Test.YtplmmoaljlnbdaaGreatWMore
import Derived.Test.YtplmmoaljlnbdaaGreatMDnx1
import Derived.Test.YtplmmoaljlnbdaaGreatMDnx2
import Derived.Test.YtplmmoaljlnbdaaGreatMDnx3
import Derived.Test.YtplmmoaljlnbdaaGreatMDnx4

section
/- slices.Repeat at ints, of one element. -/
namespace Go.Proofs.YtplmmoaljlnbdaaGreat.Hd
open Go.RowKit Go.Shelf Go.Proofs.YtplmmoaljlnbdaaGreatW.PrintWords Go.Proofs.YtplmmoaljlnbdaaGreatW.PrintMore
set_option linter.unusedVariables false
set_option linter.unusedSimpArgs false

/-- A block that holds just these cells is a row. -/
theorem R_block {W : World} {base g n : Nat} {e : TypeId} {xs : List Int} {k : IntKind} (h : W.heap[g]? = some (.cells (xs.map (Value.int k)).toArray e (0, 0))) (hb : base ≤ g) (hn : n = xs.length) (hm : n ≤ 9223372036854775807) :
    Kd.R (Kd.int k) e W base (fun _ => True) (.slice (some ⟨g, 0, none⟩) n n) xs := by
  subst hn
  refine Kd.R_of_own (enc := Value.int k) (h1 := fun _ => rfl) ?_ (fun _ _ => trivial)
  exact ⟨by simp [encs], .inr ⟨g, xs.length, _, rfl, hb, h, Nat.le_refl _, by unfold maxLen; omega, by simp, by rw [Nat.mul_one]; exact List.take_of_length_le (by simp)⟩⟩

theorem mul_one : ∀ n : Nat, n < 4097 → bits_Mul.f 1 (n : Int) = some (0, (n : Int)) := by
  have h : ((List.range 4097).all fun n => decide (bits_Mul.f 1 (n : Int) = some (0, (n : Int)))) = true := by decide +kernel
  intro n hn
  have := List.all_eq_true.1 h n (List.mem_range.2 hn)
  exact of_decide_eq_true this

set_option maxRecDepth 100000 in
set_option maxHeartbeats 1000000 in
theorem repeat1_calls (x : Int) (n : Nat) (ad : Addr) (c : Nat) (w : World) (hn : n ≤ 4096) (hc : w.cell? ad = some (.int .i64 x)) :
    Calls Tryz.prog 86 #[.slice (some ad) 1 c, .int .i64 (n : Int)] w fun e w' => ∃ g, e = .returned (.slice (some ⟨g, 0, none⟩) n n) ∧ Kd.R (Kd.int .i64) 3 w' w.heap.size (fun _ => True) (.slice (some ⟨g, 0, none⟩) n n) (List.replicate n x) ∧ Below w.heap.size w w' := by
  obtain ⟨i0, hi, hz0, hz1, hz2⟩ := info_parts (info3 : (Tryz.prog.info? 3).map (fun i => (i.zero, i.size, i.bytes)) = _)
  have hmk := fun W => run_make (P := Tryz.prog) W 31 3 i0 (.int .i64 0) Tryz.underlying31 hi hz0 .i64 .i64 (n : Int) (n : Int) (by omega) (by omega) (by rw [hz2]; omega) (by omega)
  have hm := bits_Mul.calls 1 n _ _ w (mul_one n (by omega))
  have hn0 : (n : Int) ≤ 4096 := by omega
  go_enter Tryz.func86, Tryz.ntmps86
  have hmc : (madeCells #[Value.int .i64 0] n) = (List.replicate n (Value.int .i64 0)).toArray := by
    have h := (own_made w w.heap.size 3 .i64 n (Nat.le_refl _) (by omega)).2
    simp [madeCells]
    apply Array.ext
    · simp
    · intro i h1 h2; simp [Nat.mod_one]
  have HMC := Aside0.mk hmc
  have hz : ad.add 0 = ad := by simp [go_sem]
  clear hmc
  have hsz : (Tryz.prog.info? 3).map (·.size) = some 1 := by rw [hi]; simp [hz1]
  by_cases h0 : n = 0
  · subst h0
    have hmk0 := fun W => run_make (P := Tryz.prog) W 31 3 i0 (.int .i64 0) Tryz.underlying31 hi hz0 .i64 .i64 0 0 (by omega) (by omega) (by rw [hz2]; omega) (by omega)
    have hm : Calls Tryz.prog 142 #[.int .u64 1, .int .u64 0] w _ := hm
    clear hmk
    go_wp2_with (first
      | (go_at_call 142; go_must (refine hm.mono ?_; rintro e w2 ⟨rfl, ⟨nd, rfl⟩⟩))
      | ((with_reducible refine gate_builtin (b := .copy) (xs := #[.tmp 31, .tmp 32]) rfl ?_); go_must (refine wpList_copy_splice rfl (.tmp 31) (.tmp 32) 31 31 rfl 3 Tryz.underlying31 hsz (some ⟨w.heap.size, 0, none⟩) (some ad) 0 0 1 c rfl rfl w.heap.size 0 [] 3 ?hg [] ?hn ?hpos ?hfit ?h1 w.heap.size w ?hb (Nat.le_refl _) ?_; (case hg => rw [show ([] : List Value).toArray = (List.replicate 0 (Value.int .i64 0)).toArray from rfl, ← HMC.out]; exact heap_alloc_new (w.drewN nd) _); (case hn => rfl); (case hpos => exact fun h => absurd h (by simp)); (case hfit => simp); (case h1 => intro v hv; simp at hv); (case hb => exact ((pw_below_drewN (Below.refl _ _) nd).alloc (Nat.le_refl _) _)); intro w4 hg4 hb4)))
    trace_state
    go_loopw [8] (fun i wr => i = .int .i64 0 ∧ wr = w4) (fun _ _ => 0)
    case atStart => exact ⟨rfl, rfl⟩
    case round =>
      obtain ⟨rfl, rfl⟩ := hrel
      go_wp2
      go_ret
      exact ⟨_, rfl, R_block (xs := []) hg4.out (Nat.le_refl _) rfl (by omega), hb4⟩
  · have hn1 : 1 ≤ n := by omega
    clear h0
    go_wp2_with (first
      | (go_at_call 142; go_must (refine hm.mono ?_; rintro e w2 ⟨rfl, ⟨nd, rfl⟩⟩))
      | ((with_reducible refine gate_builtin (b := .copy) (xs := #[.tmp 31, .tmp 32]) rfl ?_); go_must (refine wpList_copy_splice rfl (.tmp 31) (.tmp 32) 31 31 rfl 3 Tryz.underlying31 hsz (some ⟨w.heap.size, 0, none⟩) (some ad) n n 1 c rfl rfl w.heap.size 0 (List.replicate n (Value.int .i64 0)) 3 ?hg [.int .i64 x] ?hn ?hpos ?hfit ?h1 w.heap.size w ?hb (Nat.le_refl _) ?_; (case hg => rw [← HMC.out]; exact heap_alloc_new (w.drewN nd) _); (case hn => show 1 = Nat.min 1 n; exact (Nat.min_eq_left hn1).symm); (case hpos => exact fun _ => ⟨rfl, ad, rfl, fun j v hv => by cases j with | zero => (simp at hv; subst hv; rw [hz]; exact pw_cell_below (below_alloc (pw_below_drewN (Below.refl _ _) nd) _) hc) | succ j => simp at hv⟩); (case hfit => simp; omega); (case h1 => intro v hv; simp at hv; subst hv; rfl); (case hb => exact ((pw_below_drewN (Below.refl _ _) nd).alloc (Nat.le_refl _) _)); intro w4 hg4 hb4)))
    go_loopw [8] (fun i wr => ∃ (j : Nat) (cs : List Value), i = .int .i64 (j : Int) ∧ 1 ≤ j ∧ j ≤ n ∧ wr.heap[w.heap.size]? = some (.cells cs.toArray 3 (0, 0)) ∧ Aside0 (cs.length = n ∧ ∀ i, i < j → cs[i]? = some (.int .i64 x)) ∧ Aside0 (Below w.heap.size w wr))
      (fun i _ => n - (intOf i).toNat)
    case atStart =>
      refine ⟨1, _, by first | rfl | simp [goInt], Nat.le_refl _, hn1, hg4, ⟨by simp [splice]; omega, fun i hi => ?_⟩, ⟨hb4⟩⟩
      obtain rfl : i = 0 := by omega
      simp [splice]
    case round =>
      clear hg4 hb4
      obtain ⟨j, cs, rfl, hj1, hj, hg5, HC, HB⟩ := hrel
      by_cases hlt : j < n
      · have hne : ¬ (n = j) := by omega
        have hg6 : wr.drew.heap[w.heap.size]? = some (.cells cs.toArray 3 (0, 0)) := hg5
        have hcopy : ∀ i v, (List.replicate (min j (n - j)) (Value.int .i64 x))[i]? = some v → wr.drew.cell? ((⟨w.heap.size, 0, none⟩ : Addr).add i) = some v := fun i v hv => by
          rw [List.getElem?_replicate] at hv
          split at hv
          · rw [add_plain]
            have := blk_cell hg6 i
            rw [this]
            cases hv
            rw [List.getElem?_toArray]
            exact HC.out.2 i (by omega)
          · cases hv
        go_wp2
        go_region_law (refine step_copy_splice ?hgd (.tmp 41) (.tmp 44) 31 31 ?ho 3 Tryz.underlying31 hsz (some ⟨w.heap.size, j, none⟩) (some ⟨w.heap.size, 0, none⟩) (n - j) (n - j) j n ?hd ?hs w.heap.size j cs 3 hg6 (List.replicate (min j (n - j)) (.int .i64 x)) (List.length_replicate ..) (fun _ => ⟨rfl, _, rfl, hcopy⟩) (by rw [List.length_replicate, HC.out.1]; omega) (fun v hv => by rw [List.eq_of_mem_replicate hv]; rfl) w.heap.size w (below_drew HB.out) (Nat.le_refl _) ?_; (case hgd => rfl); (case ho => rfl); (case hd => (simp [go_sem, hne]; done)); (case hs => (simp [go_sem]; done)); intro w6 hg7 hb6)
        have h8 : ((j : Int) + ((min j (n - j) : Nat) : Int)) = ((j + min j (n - j) : Nat) : Int) := by simp
        have h9 : min j (n - j) ≤ n - j := Nat.min_le_right _ _
        have hwr : IntKind.i64.wrap ((j : Int) + ((min j (n - j) : Nat) : Int)) = ((j + min j (n - j) : Nat) : Int) := by rw [h8]; exact wraps_i64 _ (by omega) (by omega)
        have HWR := Aside0.mk hwr
        clear hwr
        go_wp2
        refine ⟨?_, ?measure⟩
        · (repeat apply Exists.intro)
          refine ⟨?rel, rfl⟩
          case rel =>
            refine ⟨j + min j (n - j), _, congrArg (Value.int .i64) HWR.out, by omega, by omega, hg7.out, ⟨by rw [length_splice _ _ _ (by rw [List.length_replicate, HC.out.1]; omega)]; exact HC.out.1, fun i hi => ?_⟩, ⟨hb6⟩⟩
            unfold splice
            by_cases hij : i < j
            · rw [List.getElem?_append_left (by simp [HC.out.1]; omega), List.getElem?_take_of_lt hij]
              exact HC.out.2 i hij
            · rw [List.getElem?_append_right (by simp [HC.out.1]; omega), List.getElem?_append_left (by simp [HC.out.1]; omega), List.getElem?_replicate, if_pos (by simp [HC.out.1]; omega)]
        · show n - (intOf (Value.int .i64 (IntKind.i64.wrap ((j : Int) + ((min j (n - j) : Nat) : Int))))).toNat < n - (intOf (Value.int .i64 (j : Int))).toNat
          rw [HWR.out]
          simp [intOf]; omega
      · obtain rfl : j = n := by omega
        go_wp2
        go_ret
        refine ⟨_, rfl, ?_, HB.out⟩
        have hcs : cs = List.replicate j (Value.int .i64 x) := by
          refine List.ext_getElem? fun i => ?_
          by_cases hi : i < j
          · rw [HC.out.2 i hi, List.getElem?_replicate, if_pos hi]
          · rw [List.getElem?_eq_none (by rw [HC.out.1]; omega), List.getElem?_eq_none (by simp; omega)]
        subst hcs
        exact R_block (by rw [List.map_replicate]; exact hg5) (Nat.le_refl _) (by simp) (by omega)
end Go.Proofs.YtplmmoaljlnbdaaGreat.Hd
end

section
-- Written by a program of this session (wip/hprint.py), out of the translation's own print.
namespace Go.Proofs.YtplmmoaljlnbdaaGreat.Hd
open Go.RowKit Go.Proofs.YtplmmoaljlnbdaaGreatW.PrintWords Go.Proofs.YtplmmoaljlnbdaaGreatW.PrintLast Go.Proofs.YtplmmoaljlnbdaaGreatW.PrintMore Go.Proofs.YtplmmoaljlnbdaaGreat.Hd
attribute [local go_sem] max2_int min2_int max_two min_two max_three min_three max_four min_four   -- for this text's walks alone
set_option linter.unusedVariables false
set_option linter.unusedSimpArgs false

/-! ### block_shaped: function 110 -/
def block_shaped.f (a0 : Int) (a1 : Int) : Option (Bool) := if a0 ≤ 1 then (some (decide (a1 ≤ 1))) else (some false)
set_option maxHeartbeats 8000000 in
set_option maxRecDepth 100000 in
theorem block_shaped.calls (a0 : Int) (a1 : Int) (r : Bool) (w : World) (h : block_shaped.f a0 a1 = some r) :
    Calls Tryz.prog 110 #[.int .u8 a0, .int .u8 a1] w fun e w' => e = .returned (.bool r) ∧ Drawn0 w w' := by
  have H : (if a0 ≤ 1 then (some (decide (a1 ≤ 1))) else (some false)) = some r := h
  clear h
  by_cases c3 : a0 ≤ 1
  · rw [if_pos c3] at H
    have c3b0 : decide (a0 ≤ 1) = true := decide_eq_true c3
    clear c3
    obtain rfl := Option.some.inj H
    go_enter Tryz.func110, Tryz.ntmps110
    go_wp2
    go_ret
    exact ⟨by first | rfl | (simp; done) | (simp [*]; done), by repeat (first | exact Drawn0.refl _ | apply Drawn0.step)⟩
  · rw [if_neg c3] at H
    have c3b0 : decide (a0 ≤ 1) = false := decide_eq_false c3
    clear c3
    obtain rfl := Option.some.inj H
    go_enter Tryz.func110, Tryz.ntmps110
    go_wp2
    go_ret
    exact ⟨by first | rfl | (simp; done) | (simp [*]; done), by repeat (first | exact Drawn0.refl _ | apply Drawn0.step)⟩

end Go.Proofs.YtplmmoaljlnbdaaGreat.Hd
end

section
/- block.Window: a window, put together of its pieces. -/
namespace Go.Proofs.YtplmmoaljlnbdaaGreat.Hd
open Go.RowKit Go.Shelf Go.Proofs.YtplmmoaljlnbdaaGreatW.PrintWords Go.Proofs.YtplmmoaljlnbdaaGreatW.PrintMore
set_option linter.unusedVariables false
set_option linter.unusedSimpArgs false

def pieceOf (was shape p : Int) : List Int :=
  if p = 0 then halfOf was false else if p = 1 then halfOf was true else if p = 4 then fallOf shape false else if p = 3 then fallOf shape true
  else if p = 2 then List.replicate 112 4194304 else List.replicate 112 0
def windowOf (seq was shape : Int) : List Int := (piecesOf seq).flatMap (pieceOf was shape)
theorem pieceOf_length (was shape p : Int) : (pieceOf was shape p).length ≤ 256 := by
  unfold pieceOf
  repeat' split
  all_goals first
    | (rw [halfOf_length]; decide)
    | (rw [fallOf_length]; decide)
    | simp
theorem flat_length (was shape : Int) (l : List Int) : (l.flatMap (pieceOf was shape)).length ≤ 256 * l.length := by
  induction l with
  | nil => simp
  | cons p l ih => have := pieceOf_length was shape p; simp only [List.flatMap_cons, List.length_append, List.length_cons]; omega
theorem windowOf_length (seq was shape : Int) (hs : seq = 0 ∨ seq = 1 ∨ seq = 3) : (windowOf seq was shape).length = 512 := by
  unfold windowOf
  rcases hs with rfl | rfl | rfl <;> simp only [piecesOf, pieceOf, List.flatMap_cons, List.flatMap_nil, List.length_append, List.length_nil, List.length_replicate, halfOf_length, fallOf_length, halfLen, reduceIte, Int.reduceEq, Bool.false_eq_true] <;> rfl
theorem piecesOf_length (seq : Int) : (piecesOf seq).length ≤ 4 := by
  unfold piecesOf
  repeat' split
  all_goals simp
theorem piecesOf_mem (seq : Int) (k : Nat) (hk : k < (piecesOf seq).length) : (piecesOf seq).getD k 0 = 0 ∨ (piecesOf seq).getD k 0 = 1 ∨ (piecesOf seq).getD k 0 = 2 ∨ (piecesOf seq).getD k 0 = 3 ∨ (piecesOf seq).getD k 0 = 4 ∨ (piecesOf seq).getD k 0 = 5 := by
  have h : (piecesOf seq).getD k 0 ∈ piecesOf seq := by rw [List.getD_eq_getElem?_getD, List.getElem?_eq_getElem hk]; simp
  have h2 : ∀ x ∈ piecesOf seq, x = 0 ∨ x = 1 ∨ x = 2 ∨ x = 3 ∨ x = 4 ∨ x = 5 := by
    unfold piecesOf
    repeat' split
    all_goals (intro x hx; simp at hx; omega)
  exact h2 _ h
theorem take_flat {α : Type} (f : Int → List α) (l : List Int) (k : Nat) (hk : k < l.length) : (l.take (k + 1)).flatMap f = (l.take k).flatMap f ++ f (l.getD k 0) := by
  rw [List.take_succ_eq_append_getElem hk, List.flatMap_append]
  simp [hk]

theorem half_piece (shape : Int) (short : Bool) (w : World) (hs : shape = 0 ∨ shape = 1) :
    Calls Tryz.prog 115 #[.int .u8 shape, .bool short] w fun e w' => ∃ A c, e = .returned (.slice A (halfOf shape short).length c) ∧ Kd.C (Kd.int .i64) w' A (halfOf shape short).length (halfOf shape short) ∧ Below w.heap.size w w' :=
  (half_calls shape short w hs).mono fun e w' ⟨g, he, ho, hb⟩ => ⟨some ⟨g, 0, none⟩, halfLen short, by rw [halfOf_length]; exact he, (Kd.R_reads' ho).2.2, hb⟩
theorem fall_piece (shape : Int) (short : Bool) (w : World) (hs : shape = 0 ∨ shape = 1) :
    Calls Tryz.prog 116 #[.int .u8 shape, .bool short] w fun e w' => ∃ A c, e = .returned (.slice A (fallOf shape short).length c) ∧ Kd.C (Kd.int .i64) w' A (fallOf shape short).length (fallOf shape short) ∧ Below w.heap.size w w' :=
  (fall_calls shape short w hs).mono fun e w' ⟨g, he, ho, hb⟩ => ⟨some ⟨g, 0, none⟩, halfLen short, by rw [fallOf_length]; exact he, (Kd.R_reads' ho).2.2, hb⟩
theorem repeat_piece (w : World) (was shape : Int) :
    Calls Tryz.prog 86 #[.slice (some ⟨w.heap.size, 0, none⟩) 1 1, .int .i64 112] (w.alloc (.cells #[.int .i64 4194304] 3)) fun e w' => ∃ A c, e = .returned (.slice A (List.replicate 112 (4194304 : Int)).length c) ∧ Kd.C (Kd.int .i64) w' A (List.replicate 112 (4194304 : Int)).length (List.replicate 112 4194304) ∧ Below w.heap.size w w' :=
  (repeat1_calls 4194304 112 ⟨w.heap.size, 0, none⟩ 1 (w.alloc (.cells #[.int .i64 4194304] 3)) (by omega) (Boxed.new w 3 (.int .i64 4194304)).cell).mono fun e w' ⟨g, he, ho, hb⟩ => ⟨some ⟨g, 0, none⟩, 112, by rw [List.length_replicate]; exact he, (Kd.R_reads' ho).2.2, ((Below.refl _ _).alloc (Nat.le_refl _) _).trans (hb.mono (by simp))⟩

set_option maxRecDepth 100000 in
set_option maxHeartbeats 2000000 in
theorem window_calls (seq was shape : Int) (w : World) (hs : seq = 0 ∨ seq = 1 ∨ seq = 3) (hwas : was = 0 ∨ was = 1) (hshape : shape = 0 ∨ shape = 1) :
    Calls Tryz.prog 114 #[.int .u8 seq, .int .u8 was, .int .u8 shape] w fun e w' => ∃ v, e = .returned (.tuple #[v, .int .i64 0]) ∧ Kd.R (Kd.int .i64) 3 w' w.heap.size (fun _ => True) v (windowOf seq was shape) ∧ Below w.heap.size w w' := by
  obtain ⟨i0, hi, hz0, hz1, hz2⟩ := info_parts (info3 : (Tryz.prog.info? 3).map (fun i => (i.zero, i.size, i.bytes)) = _)
  have hmk := fun W => run_make (P := Tryz.prog) W 31 3 i0 (.int .i64 0) Tryz.underlying31 hi hz0 .i64 .i64 112 112 (by omega) (by omega) (by rw [hz2]; omega) (by omega)
  have hp := fun W => pieces_calls seq W hs
  have hsh := block_shaped.calls was shape true w (by unfold block_shaped.f; rcases hwas with rfl | rfl <;> rcases hshape with rfl | rfl <;> simp)
  have t1 : decide (3 < seq) = false := by rcases hs with rfl | rfl | rfl <;> rfl
  have t2 : (seq == 2) = false := by rcases hs with rfl | rfl | rfl <;> rfl
  have HSq := Aside0.mk hs
  have HW := Aside0.mk hwas
  have HSh := Aside0.mk hshape
  obtain ⟨ps, hps⟩ : ∃ ps, ps = piecesOf seq := ⟨_, rfl⟩
  have hpl : ps.length ≤ 4 := by rw [hps]; exact piecesOf_length seq
  rw [← hps] at hp
  have HP := Aside0.mk hps
  clear hs hwas hshape hps
  go_enter Tryz.func114, Tryz.ntmps114
  go_wp2_with (first
    | (go_at_call 110; go_must (refine hsh.mono ?_; rintro e w1 ⟨rfl, ⟨nd, rfl⟩⟩))
    | (go_at_call 173; go_must (refine (hp _).mono ?_; rintro e w2 ⟨A, rfl, hc, hb⟩); have HC := Aside0.mk hc; have HB := Aside0.mk ((pw_below_drewN (Below.refl _ _) nd).trans hb); clear hc hb))
  go_loopw [8, 27] (fun v i wr => ∃ k : Nat, i = .int .i64 (k : Int) ∧ k ≤ ps.length ∧ Aside0 (Kd.R (Kd.int .i64) 3 wr w2.heap.size (fun _ => True) v ((ps.take k).flatMap (pieceOf was shape))) ∧ Aside0 (Below w2.heap.size w2 wr))
    (fun _ i _ => ps.length - (intOf i).toNat)
  case atStart => exact ⟨0, rfl, Nat.zero_le _, ⟨by simpa using Kd.R_nil _ _ _ _ _⟩, ⟨Below.refl _ _⟩⟩
  case round =>
    obtain ⟨k, rfl, hk, HO, HB2⟩ := hrel
    by_cases hlt : k < ps.length
    · obtain ⟨ad, hA, hcell⟩ := C_at (Kd.C_below HC.out HB2.out) k hlt
      subst hA
      have hfl : ((ps.take k).flatMap (pieceOf was shape)).length ≤ 1024 := by have := flat_length was shape (ps.take k); rw [List.length_take] at this; omega
      have htk := Aside0.mk (take_flat (pieceOf was shape) ps k hlt)
      obtain ⟨xs, hxs⟩ : ∃ xs, xs = (ps.take k).flatMap (pieceOf was shape) := ⟨_, rfl⟩
      rw [← hxs] at hfl htk HO
      have HX := Aside0.mk hxs
      clear hxs
      have hm := piecesOf_mem seq k (by rw [← HP.out]; exact hlt)
      rw [← HP.out] at hm
      obtain ⟨p, hp2⟩ : ∃ p, p = ps.getD k 0 := ⟨_, rfl⟩
      rw [← hp2] at hm hcell htk
      have HP2 := Aside0.mk hp2
      clear hp2 hp hsh
      have hw2 := HB2.out.size
      rcases hm with rfl | rfl | rfl | rfl | rfl | rfl
      · skip
        go_wp2_with (first | (go_at_call 115; go_must (refine (half_piece was false wr (by first | exact HW.out | exact HSh.out)).mono ?_; rintro e w3 ⟨A3, c3, rfl, hc3, hb3⟩); have HC3 : Aside0 (Kd.C (Kd.int .i64) w3 A3 (pieceOf was shape 0).length (pieceOf was shape 0)) := ⟨hc3⟩; have HO3 := Aside0.mk (Kd.R_below HO.out hb3); have HB3 := Aside0.mk (below_then HB2.out hw2 hb3); clear hc3 hb3) | ((with_reducible refine gate_builtin (b := .append) (xs := #[.tmp 53, .tmp 54]) rfl ?_); go_must (refine Kd.R_append_row (Value.int .i64) 0 (h1 := fun _ => rfl) (w0 := w2) w2.heap.size rfl (.tmp 53) (.tmp 54) 31 3 (.int .i64 0) 8 rfl Tryz.underlying31 info3 rfl (by omega) u8 xs (pieceOf was shape 0) _ _ _ (fun _ => True) rfl rfl ?aF ?aO ?aR ?aB ?aS ?aL ?_; (case aF => exact fun _ _ => trivial); (case aO => exact HO3.out); (case aR => exact HC3.out); (case aB => exact HB3.out); (case aS => exact HB3.out.size); (case aL => have : (halfOf was false).length ≤ 256 := pieceOf_length was shape 0; omega)); intro v4 w4 ho hb hg hat; have HO4 := Aside0.mk ho; have HB4 := Aside0.mk hb; clear ho hb hg hat))
        go_roundw
        case rel => exact ⟨k + 1, by simp, by omega, ⟨by rw [htk.out]; exact HO4.out⟩, HB4⟩
        case measure => simp [intOf]; omega
      · skip
        go_wp2_with (first | (go_at_call 115; go_must (refine (half_piece was true wr (by first | exact HW.out | exact HSh.out)).mono ?_; rintro e w3 ⟨A3, c3, rfl, hc3, hb3⟩); have HC3 : Aside0 (Kd.C (Kd.int .i64) w3 A3 (pieceOf was shape 1).length (pieceOf was shape 1)) := ⟨hc3⟩; have HO3 := Aside0.mk (Kd.R_below HO.out hb3); have HB3 := Aside0.mk (below_then HB2.out hw2 hb3); clear hc3 hb3) | ((with_reducible refine gate_builtin (b := .append) (xs := #[.tmp 53, .tmp 54]) rfl ?_); go_must (refine Kd.R_append_row (Value.int .i64) 0 (h1 := fun _ => rfl) (w0 := w2) w2.heap.size rfl (.tmp 53) (.tmp 54) 31 3 (.int .i64 0) 8 rfl Tryz.underlying31 info3 rfl (by omega) u8 xs (pieceOf was shape 1) _ _ _ (fun _ => True) rfl rfl ?aF ?aO ?aR ?aB ?aS ?aL ?_; (case aF => exact fun _ _ => trivial); (case aO => exact HO3.out); (case aR => exact HC3.out); (case aB => exact HB3.out); (case aS => exact HB3.out.size); (case aL => have : (halfOf was true).length ≤ 256 := pieceOf_length was shape 1; omega)); intro v4 w4 ho hb hg hat; have HO4 := Aside0.mk ho; have HB4 := Aside0.mk hb; clear ho hb hg hat))
        go_roundw
        case rel => exact ⟨k + 1, by simp, by omega, ⟨by rw [htk.out]; exact HO4.out⟩, HB4⟩
        case measure => simp [intOf]; omega
      · skip
        go_wp2_with (first | (go_at_call 86; go_must (refine (repeat_piece wr was shape).mono ?_; rintro e w3 ⟨A3, c3, rfl, hc3, hb3⟩); have HC3 : Aside0 (Kd.C (Kd.int .i64) w3 A3 (pieceOf was shape 2).length (pieceOf was shape 2)) := ⟨hc3⟩; have HO3 := Aside0.mk (Kd.R_below HO.out hb3); have HB3 := Aside0.mk (below_then HB2.out hw2 hb3); clear hc3 hb3) | ((with_reducible refine gate_builtin (b := .append) (xs := #[.tmp 53, .tmp 54]) rfl ?_); go_must (refine Kd.R_append_row (Value.int .i64) 0 (h1 := fun _ => rfl) (w0 := w2) w2.heap.size rfl (.tmp 53) (.tmp 54) 31 3 (.int .i64 0) 8 rfl Tryz.underlying31 info3 rfl (by omega) u8 xs (pieceOf was shape 2) _ _ _ (fun _ => True) rfl rfl ?aF ?aO ?aR ?aB ?aS ?aL ?_; (case aF => exact fun _ _ => trivial); (case aO => exact HO3.out); (case aR => exact HC3.out); (case aB => exact HB3.out); (case aS => exact HB3.out.size); (case aL => have := pieceOf_length was shape 2; omega)); intro v4 w4 ho hb hg hat; have HO4 := Aside0.mk ho; have HB4 := Aside0.mk hb; clear ho hb hg hat))
        go_roundw
        case rel => exact ⟨k + 1, by simp, by omega, ⟨by rw [htk.out]; exact HO4.out⟩, HB4⟩
        case measure => simp [intOf]; omega
      · skip
        go_wp2_with (first | (go_at_call 116; go_must (refine (fall_piece shape true wr (by first | exact HW.out | exact HSh.out)).mono ?_; rintro e w3 ⟨A3, c3, rfl, hc3, hb3⟩); have HC3 : Aside0 (Kd.C (Kd.int .i64) w3 A3 (pieceOf was shape 3).length (pieceOf was shape 3)) := ⟨hc3⟩; have HO3 := Aside0.mk (Kd.R_below HO.out hb3); have HB3 := Aside0.mk (below_then HB2.out hw2 hb3); clear hc3 hb3) | ((with_reducible refine gate_builtin (b := .append) (xs := #[.tmp 53, .tmp 54]) rfl ?_); go_must (refine Kd.R_append_row (Value.int .i64) 0 (h1 := fun _ => rfl) (w0 := w2) w2.heap.size rfl (.tmp 53) (.tmp 54) 31 3 (.int .i64 0) 8 rfl Tryz.underlying31 info3 rfl (by omega) u8 xs (pieceOf was shape 3) _ _ _ (fun _ => True) rfl rfl ?aF ?aO ?aR ?aB ?aS ?aL ?_; (case aF => exact fun _ _ => trivial); (case aO => exact HO3.out); (case aR => exact HC3.out); (case aB => exact HB3.out); (case aS => exact HB3.out.size); (case aL => have : (fallOf shape true).length ≤ 256 := pieceOf_length was shape 3; omega)); intro v4 w4 ho hb hg hat; have HO4 := Aside0.mk ho; have HB4 := Aside0.mk hb; clear ho hb hg hat))
        go_roundw
        case rel => exact ⟨k + 1, by simp, by omega, ⟨by rw [htk.out]; exact HO4.out⟩, HB4⟩
        case measure => simp [intOf]; omega
      · skip
        go_wp2_with (first | (go_at_call 116; go_must (refine (fall_piece shape false wr (by first | exact HW.out | exact HSh.out)).mono ?_; rintro e w3 ⟨A3, c3, rfl, hc3, hb3⟩); have HC3 : Aside0 (Kd.C (Kd.int .i64) w3 A3 (pieceOf was shape 4).length (pieceOf was shape 4)) := ⟨hc3⟩; have HO3 := Aside0.mk (Kd.R_below HO.out hb3); have HB3 := Aside0.mk (below_then HB2.out hw2 hb3); clear hc3 hb3) | ((with_reducible refine gate_builtin (b := .append) (xs := #[.tmp 53, .tmp 54]) rfl ?_); go_must (refine Kd.R_append_row (Value.int .i64) 0 (h1 := fun _ => rfl) (w0 := w2) w2.heap.size rfl (.tmp 53) (.tmp 54) 31 3 (.int .i64 0) 8 rfl Tryz.underlying31 info3 rfl (by omega) u8 xs (pieceOf was shape 4) _ _ _ (fun _ => True) rfl rfl ?aF ?aO ?aR ?aB ?aS ?aL ?_; (case aF => exact fun _ _ => trivial); (case aO => exact HO3.out); (case aR => exact HC3.out); (case aB => exact HB3.out); (case aS => exact HB3.out.size); (case aL => have : (fallOf shape false).length ≤ 256 := pieceOf_length was shape 4; omega)); intro v4 w4 ho hb hg hat; have HO4 := Aside0.mk ho; have HB4 := Aside0.mk hb; clear ho hb hg hat))
        go_roundw
        case rel => exact ⟨k + 1, by simp, by omega, ⟨by rw [htk.out]; exact HO4.out⟩, HB4⟩
        case measure => simp [intOf]; omega
      · skip
        have HC3 : Aside0 (Kd.C (Kd.int .i64) (wr.alloc (.cells (madeCells #[.int .i64 0] 112) 3)) (some ⟨wr.heap.size, 0, none⟩) (pieceOf was shape 5).length (pieceOf was shape 5)) := ⟨by have h := (Kd.R_reads' (R_made wr wr.heap.size 3 .i64 112 (Nat.le_refl _) (by omega))).2.2; exact h⟩
        have HO3 := Aside0.mk (Kd.R_alloc HO.out (.cells (madeCells #[.int .i64 0] 112) 3))
        have HB3 := Aside0.mk (HB2.out.alloc hw2 (.cells (madeCells #[.int .i64 0] 112) 3))
        go_wp2_with (((with_reducible refine gate_builtin (b := .append) (xs := #[.tmp 53, .tmp 54]) rfl ?_); go_must (refine Kd.R_append_row (Value.int .i64) 0 (h1 := fun _ => rfl) (w0 := w2) w2.heap.size rfl (.tmp 53) (.tmp 54) 31 3 (.int .i64 0) 8 rfl Tryz.underlying31 info3 rfl (by omega) u8 xs (pieceOf was shape 5) _ _ _ (fun _ => True) rfl rfl ?aF ?aO ?aR ?aB ?aS ?aL ?_; (case aF => exact fun _ _ => trivial); (case aO => exact HO3.out); (case aR => exact HC3.out); (case aB => exact HB3.out); (case aS => exact HB3.out.size); (case aL => have := pieceOf_length was shape 5; omega)); intro v4 w4 ho hb hg hat; have HO4 := Aside0.mk ho; have HB4 := Aside0.mk hb; clear ho hb hg hat))
        go_roundw
        case rel => exact ⟨k + 1, by simp, by omega, ⟨by rw [htk.out]; exact HO4.out⟩, HB4⟩
        case measure => simp [intOf]; omega
    · obtain rfl : k = ps.length := by omega
      go_wp2
      go_ret2
      refine ⟨_, rfl, ?_, below_then HB.out HB.out.size HB2.out⟩
      have h := HO.out
      rw [List.take_length, HP.out] at h
      exact Kd.R_lower h HB.out.size
end Go.Proofs.YtplmmoaljlnbdaaGreat.Hd
end

section
/- block.windows: the iterator over a frame's windows. -/
namespace Go.Proofs.YtplmmoaljlnbdaaGreat.Hd
open Go.RowKit Go.Shelf Go.Proofs.YtplmmoaljlnbdaaGreatW.PrintWords Go.Proofs.YtplmmoaljlnbdaaGreatW.PrintMore
set_option linter.unusedVariables false
set_option linter.unusedSimpArgs false
attribute [local go_sem] Oper.semAt_some

theorem windows_calls (seq was shape : Int) (w : World) :
    Calls Tryz.prog 59 #[.int .u8 seq, .int .u8 was, .int .u8 shape] w fun e w' => e = .returned (.func (.func 113) #[] #[.pointer (some ⟨w.heap.size, 0, none⟩), .pointer (some ⟨w.heap.size + 1, 0, none⟩), .pointer (some ⟨w.heap.size + 1 + 1, 0, none⟩)]) ∧
      w' = ((w.alloc (.cells #[.int .u8 seq] 5)).alloc (.cells #[.int .u8 was] 5)).alloc (.cells #[.int .u8 shape] 5) := by
  go_enter Tryz.func59, Tryz.ntmps59
  go_wp2
  go_ret
  exact ⟨rfl, rfl⟩

/-- A frame's windows: where each lies, and its values. -/
def shortWin (was shape : Int) (i : Nat) : List Int := (if i = 0 then halfOf was true else halfOf shape true) ++ fallOf shape true
def winsOf (seq was shape : Int) : List (Int × List Int) :=
  if seq = 2 then (List.range 8).map fun i : Nat => ((112 + 32 * i : Int), shortWin was shape i) else [(0, windowOf seq was shape)]
def WinRep (x : Int × List Int) (args : Array Value) (W : World) : Prop := ∃ A c, args = #[.int .i64 x.1, .slice A x.2.length c] ∧ x.2.length ≤ c ∧ Kd.C (Kd.int .i64) W A x.2.length x.2
theorem shortWin_length (was shape : Int) (i : Nat) : (shortWin was shape i).length = 64 := by
  unfold shortWin
  split <;> simp [halfOf_length, fallOf_length, halfLen]

def S3 (a b c : Nat) (k : Nat) : Prop := k = a ∨ k = b ∨ k = c
set_option maxRecDepth 100000 in
set_option maxHeartbeats 2000000 in
theorem windows_iter (seq was shape : Int) (Bs Bw Bh : Nat) (w : World) (hs : seq = 0 ∨ seq = 1 ∨ seq = 2 ∨ seq = 3) (hwas : was = 0 ∨ was = 1) (hshape : shape = 0 ∨ shape = 1)
    (b0 : Boxed w Bs 5 (.int .u8 seq)) (b1 : Boxed w Bw 5 (.int .u8 was)) (b2 : Boxed w Bh 5 (.int .u8 shape)) :
    IterAt Fence.wide 9 Tryz.prog 113 #[.pointer (some ⟨Bs, 0, none⟩), .pointer (some ⟨Bw, 0, none⟩), .pointer (some ⟨Bh, 0, none⟩)] WinRep (fun A B => Below A.heap.size A B) (Kpt 0 (S3 Bs Bw Bh)) (winsOf seq was shape) w := by
  intro l J Jx W hW hJ hJx hY h0
  have c0 := (hW.cell (p := ⟨Bs, 0, none⟩) b0.lt).trans b0.cell
  have c1 := (hW.cell (p := ⟨Bw, 0, none⟩) b1.lt).trans b1.cell
  have c2 := (hW.cell (p := ⟨Bh, 0, none⟩) b2.lt).trans b2.cell
  have HWx := Aside0.mk hwas
  have HSh := Aside0.mk hshape
  have HJ := Aside0.mk hJ
  have HJx := Aside0.mk hJx
  have HY := Aside0.mk hY
  have H0 := Aside0.mk h0
  clear hW b0 b1 b2 hwas hshape hJ hJx hY h0
  simp only [List.push_toArray, List.append_toArray, List.nil_append, List.cons_append]
  by_cases h2 : seq = 2
  · subst h2
    clear hs
    refine callsIn_of_wp Tryz.func113 rfl trivial ?_ rfl
    simp only [Tryz.ntmps113, List.size_toArray, List.length_cons, List.length_nil, Nat.reduceAdd, Nat.reduceSub, Array.replicate_succ, Array.replicate_zero, List.push_toArray, List.append_toArray, List.nil_append, List.cons_append]
    gi_wp2_with ((refine ⟨trivial, ?_⟩; gi_at_call 115; go_must (refine (callsIn_wide.2 (half_calls was true W HWx.out)).mono ?_; rintro e w3 ⟨g, rfl, ho, hb⟩); have HO := Aside0.mk ho; have d2 := pw_cell_below hb c2; have H1 := Aside0.mk (HJ.out 0 _ _ H0.out hb); clear ho hb))
    clear c0 c1 c2
    gi_loopw [7, 23] (fun v i wr => ∃ (k g : Nat), i = .int .i64 (k : Int) ∧ k ≤ 8 ∧ v = .slice (some ⟨g, 0, none⟩) 32 32 ∧ Aside0 (Kd.R (Kd.int .i64) 3 wr 0 (fun _ => True) (.slice (some ⟨g, 0, none⟩) 32 32) (if k = 0 then halfOf was true else halfOf shape true)) ∧ wr.cell? ⟨Bh, 0, none⟩ = some (.int .u8 shape) ∧ Aside0 (J k wr))
      (fun _ i _ => 8 - (intOf i).toNat)
    case atStart => exact ⟨0, g, rfl, by omega, rfl, ⟨Kd.R_lower HO.out (Nat.zero_le _)⟩, d2, H1⟩
    case round =>
      clear d2 HO
      obtain ⟨k, g, rfl, hk, rfl, HO, c2, HJk⟩ := hrel
      by_cases hlt : k < 8
      · obtain ⟨fs, hfs⟩ : ∃ fs, fs = (if k = 0 then halfOf was true else halfOf shape true) := ⟨_, rfl⟩
        have hfl : fs.length = 32 := by rw [hfs]; split <;> simp [halfOf_length, halfLen]
        have hwk : k < (winsOf 2 was shape).length := by simp [winsOf]; omega
        obtain ⟨zs, hzs⟩ : ∃ zs, zs = fs ++ fallOf shape true := ⟨_, rfl⟩
        have hwx : (winsOf 2 was shape)[k] = ((112 + 32 * k : Int), zs) := by simp [winsOf, shortWin, hfs, hzs]
        rw [← hfs] at HO
        have HFS := Aside0.mk hfs
        have HFL := Aside0.mk hfl
        have HWX := Aside0.mk hwx
        have HZS := Aside0.mk hzs
        clear hfs hfl hwx hzs
        gi_wp2_with (first
          | (refine ⟨trivial, ?_⟩; gi_at_call 116; go_must (refine (callsIn_wide.2 (fall_calls shape true wr HSh.out)).mono ?_; rintro e w4 ⟨g4, rfl, ho, hb⟩); have HO4 := Aside0.mk ho; have HO1 := Aside0.mk (Kd.R_below HO.out hb); have d2 := pw_cell_below hb c2; have HJ4 := Aside0.mk (HJ.out k _ _ HJk.out hb); clear ho hb)
          | (gi_at_builtin; go_must (refine append_grows_intIn (k := .i64) rfl (.tmp 30) (.tmp 32) 31 3 rfl 8 Tryz.underlying31 info3 ⟨g, 0, none⟩ 32 32 fs (by rfl) ?aA ?aB ⟨g4, 0, none⟩ 32 32 (fallOf shape true) (by rfl) ?aC ?aD (by omega) (by omega) (by omega) ?_; (case aA => have h := (Kd.R_reads' HO1.out).2.2; rw [HFL.out] at h; exact h); (case aB => exact HFL.out.symm); (case aC => have h := (Kd.R_reads' HO4.out).2.2; rw [fallOf_length] at h; exact h); (case aD => rw [fallOf_length]; rfl)); intro v5 w5 ho5 hb5; rw [← HZS.out] at ho5; obtain ⟨A5, c5, rfl, hl5, hC5⟩ := Kd.R_reads ho5; have HC5 := Aside0.mk hC5; have d3 := pw_cell_below hb5 d2; have HJ5 := Aside0.mk (HJ.out k _ _ HJ4.out hb5); clear ho5 hb5 hC5; obtain ⟨fn, tmps, assign, body, hy, hR⟩ := HY.out k #[.int .i64 (112 + 32 * k : Int), .slice A5 zs.length c5] w5 hwk HJ5.out (by rw [HWX.out]; exact ⟨A5, c5, rfl, hl5, HC5.out⟩)))
        refine hR.mono ?_
        rintro e W6 (⟨rfl, hJ6, hk6⟩ | ⟨rfl, hJx6⟩)
        · have d6 := (hk6.cell (p := ⟨Bh, 0, none⟩) (.inr (.inr (.inr rfl)))).trans d3
          have HJ6 := Aside0.mk hJ6
          clear hJ6 hk6 hy hR
          gi_wp2_with ((refine ⟨trivial, ?_⟩; gi_at_call 115; go_must (refine (callsIn_wide.2 (half_calls shape true W6 HSh.out)).mono ?_; rintro e w7 ⟨g7, rfl, ho7, hb7⟩); have HO7 := Aside0.mk ho7; have d7 := pw_cell_below hb7 d6; have HJ7 := Aside0.mk (HJ.out (k + 1) _ _ HJ6.out hb7); clear ho7 hb7))
          go_roundw
          case rel => exact ⟨k + 1, g7, by simp, by omega, rfl, ⟨by rw [if_neg (by omega)]; exact Kd.R_lower HO7.out (Nat.zero_le _)⟩, d7, HJ7⟩
          case measure => simp [intOf]; omega
        · gi_wp2
          refine bodyPost_ret (results_none rfl _ _ _) rfl ?_
          exact ⟨⟨_, rfl⟩, .inr hJx6⟩
      · obtain rfl : k = 8 := by omega
        gi_wp2
        go_end0
        exact ⟨⟨_, rfl⟩, .inl (by simpa [winsOf] using HJk.out)⟩
  · have hs3 : seq = 0 ∨ seq = 1 ∨ seq = 3 := by omega
    have t0 : (seq != 2) = true := by simp; omega
    have HS3 := Aside0.mk hs3
    have HN := Aside0.mk h2
    clear hs hs3 h2
    refine callsIn_of_wp Tryz.func113 rfl trivial ?_ rfl
    simp only [Tryz.ntmps113, List.size_toArray, List.length_cons, List.length_nil, Nat.reduceAdd, Nat.reduceSub, Array.replicate_succ, Array.replicate_zero, List.push_toArray, List.append_toArray, List.nil_append, List.cons_append]
    gi_wp2_with ((refine ⟨trivial, ?_⟩; gi_at_call 114; go_must (refine (callsIn_wide.2 (window_calls seq was shape W HS3.out HWx.out HSh.out)).mono ?_; rintro e w3 ⟨v3, rfl, ho, hb⟩); obtain ⟨A3, c3, rfl, hl3, hC3⟩ := Kd.R_reads ho; have H1 := Aside0.mk (HJ.out 0 _ _ H0.out hb); obtain ⟨fn, tmps, assign, body, hy, hR⟩ := HY.out 0 #[.int .i64 0, .slice A3 (windowOf seq was shape).length c3] w3 (by rw [winsOf, if_neg HN.out]; simp) H1.out ⟨A3, c3, by simp [winsOf, HN.out], by simpa [winsOf, HN.out] using hl3, by simpa [winsOf, HN.out] using hC3⟩; clear ho hb hC3))
    refine hR.mono ?_
    have hwl : (winsOf seq was shape).length = 1 := by rw [winsOf, if_neg HN.out]; rfl
    rintro e W6 (⟨rfl, hJ6, hk6⟩ | ⟨rfl, hJx6⟩)
    · gi_wp2
      refine bodyPost_ret (results_none rfl _ _ _) rfl ?_
      exact ⟨⟨_, rfl⟩, .inl (by rw [hwl]; exact hJ6)⟩
    · gi_wp2
      refine bodyPost_ret (results_none rfl _ _ _) rfl ?_
      exact ⟨⟨_, rfl⟩, .inr hJx6⟩
end Go.Proofs.YtplmmoaljlnbdaaGreat.Hd
end

section
-- Written by a program of this session (wip/hprint.py), out of the translation's own print.
namespace Go.Proofs.YtplmmoaljlnbdaaGreat.Hd
open Go.RowKit Go.Proofs.YtplmmoaljlnbdaaGreatW.PrintWords Go.Proofs.YtplmmoaljlnbdaaGreatW.PrintLast Go.Proofs.YtplmmoaljlnbdaaGreatW.PrintMore Go.Proofs.YtplmmoaljlnbdaaGreat.Hd
attribute [local go_sem] max2_int min2_int max_two min_two max_three min_three max_four min_four   -- for this text's walks alone
set_option linter.unusedVariables false
set_option linter.unusedSimpArgs false

/-! ### block_times: function 61 -/
def block_times.l0 : Nat → List Int → Int → List Int → List Int → Int → Int → Option (List Int)
  | 0, _, _, _, _, _, _ => none
  | k + 1, x1, x2, x7, x13, x14, x15 => if x15 < x14 then (if 0 ≤ x15 then (if x15 < (x13.length : Int) then (if x15 < (x1.length : Int) then ((fix_Round.f k (wrap64 ((rd x13 x15) * (rd x1 x15))) x2).bind fun bt275 => (if x15 < (x7.length : Int) then (block_times.l0 k x1 x2 (x7.set (x15 : Int).toNat bt275.1) x13 x14 (wrap64 (x15 + 1))) else (none))) else (none)) else (none)) else (none)) else (some x7)
def block_times.f (k : Nat) (l0 : List Int) (l1 : List Int) (a2 : Int) : Option (List Int) := if 0 ≤ (l0.length : Int) then (if ((l0.length : Int) : Int).toNat ≤ 35184372088832 then (block_times.l0 k l1 a2 (List.replicate ((l0.length : Int) : Int).toNat 0) l0 (l0.length : Int) 0) else (none)) else (none)
theorem block_times.mono_l : ∀ k, (∀ y0 y1 y2 y3 y4 y5, LeO (block_times.l0 k y0 y1 y2 y3 y4 y5) (block_times.l0 (k + 1) y0 y1 y2 y3 y4 y5))
  | 0 => fun _ _ _ _ _ _ r h => by simp [block_times.l0] at h
  | k + 1 => by
    have ih0 := block_times.mono_l k
    · intro y0 y1 y2 y3 y4 y5
      unfold block_times.l0
      repeat' first
      | (with_reducible exact ih0 _ _ _ _ _ _)
      | (with_reducible exact fix_Round.mono _ _ _)
      | (with_reducible exact LeO.refl _)
      | (with_reducible exact LeO.none _)
      | (with_reducible refine LeO.ite ?_ ?_)
      | (with_reducible refine LeO.bind ?_ (fun _ => ?_))
      | exact ih0 _ _ _ _ _ _
      | exact fix_Round.mono _ _ _
      | exact LeO.none _
      | refine LeO.ite ?_ ?_
      | refine LeO.bind ?_ (fun _ => ?_)
theorem block_times.mono : ∀ a0 a1 a2 k, LeO (block_times.f k a0 a1 a2) (block_times.f (k + 1) a0 a1 a2) := by
  intro a0 a1 a2 k
  have ih0 := block_times.mono_l k
  unfold block_times.f
  repeat' first
      | (with_reducible exact ih0 _ _ _ _ _ _)
      | (with_reducible exact fix_Round.mono _ _ _)
      | (with_reducible exact LeO.refl _)
      | (with_reducible exact LeO.none _)
      | (with_reducible refine LeO.ite ?_ ?_)
      | (with_reducible refine LeO.bind ?_ (fun _ => ?_))
      | exact ih0 _ _ _ _ _ _
      | exact fix_Round.mono _ _ _
      | exact LeO.none _
      | refine LeO.ite ?_ ?_
      | refine LeO.bind ?_ (fun _ => ?_)
set_option maxHeartbeats 8000000 in
set_option maxRecDepth 100000 in
theorem block_times.calls (k : Nat) (A0 : Option Addr) (c0 : Nat) (l0 : List Int) (A1 : Option Addr) (c1 : Nat) (l1 : List Int) (a2 : Int) (r : List Int) (w : World) (hr0 : Kd.C (Kd.int .i64) w A0 l0.length l0) (hc0 : l0.length ≤ c0) (hr1 : Kd.C (Kd.int .i64) w A1 l1.length l1) (hc1 : l1.length ≤ c1) (h : block_times.f k l0 l1 a2 = some r) :
    Calls Tryz.prog 61 #[.slice A0 l0.length c0, .slice A1 l1.length c1, .int .i64 a2] w fun e w' => ∃ v0_ : Value, e = .returned (v0_) ∧ Kd.R (Kd.int .i64) 3 w' w.heap.size (fun _ => True) v0_ r ∧ Below w.heap.size w w' := by
  have HR0 := Aside0.mk hr0
  have HC0 := Aside0.mk hc0
  clear hr0 hc0
  have HR1 := Aside0.mk hr1
  have HC1 := Aside0.mk hc1
  clear hr1 hc1
  have HB := Aside0.mk (Below.refl w.heap.size w)
  have H : (if 0 ≤ (l0.length : Int) then (if ((l0.length : Int) : Int).toNat ≤ 35184372088832 then (block_times.l0 k l1 a2 (List.replicate ((l0.length : Int) : Int).toNat 0) l0 (l0.length : Int) 0) else (none)) else (none)) = some r := h
  clear h
  by_cases c4 : 0 ≤ (l0.length : Int)
  · rw [if_pos c4] at H
    have c4b0 := eq_true c4
    have c4b1 : decide (0 ≤ (l0.length : Int)) = true := decide_eq_true c4
    clear c4
    by_cases c5 : ((l0.length : Int) : Int).toNat ≤ 35184372088832
    · rw [if_pos c5] at H
      have c5b0 := eq_true c5
      have c5b1 : decide (((l0.length : Int) : Int).toNat ≤ 35184372088832) = true := decide_eq_true c5
      clear c5
      obtain ⟨y270, hy270⟩ : ∃ y_ : List Int, y_ = (List.replicate ((l0.length : Int) : Int).toNat 0) := ⟨_, rfl⟩
      replace H : (block_times.l0 k l1 a2 y270 l0 (l0.length : Int) 0) = some r := by first | (rw [hy270]; with_reducible exact H) | (have H2_ := (Option.bind_some _ _).symm.trans H; rw [hy270]; with_reducible exact H2_) | (have H2_ := (Option.bind_some _ _).symm.trans H; with_reducible exact H2_) | with_reducible exact H | (rw [hy270]; exact H) | exact H
      have Ny270 := Aside0.mk hy270
      clear hy270
      have H' := Aside0.mk H
      clear H
      go_enter Tryz.func61, Tryz.ntmps61
      go_wp2_with (first | ((with_reducible refine gate_dst (N := 12) rfl ?_); refine Kd.R_make (Kd.int .i64) _ 3 rfl (N := 12) rfl 31 _ _ rfl (l0.length : Int) rfl rfl Tryz.underlying31 (.int .i64 0) 8 info3 rfl (by decide) (by omega) 0 (ok := fun _ => True) (okp := fun _ => True) rfl (fun _ hk => hk) trivial (of_decide_eq_true (by first | (with_reducible assumption) | assumption)) (Nat.le_trans (Nat.mul_le_mul_right _ (of_decide_eq_true (by first | (with_reducible assumption) | assumption) : (l0.length : Int).toNat ≤ 35184372088832)) (by omega)) (Below.refl _ _) (Nat.le_refl _) ?_; intro v271 w6 ho7 hb hg_ hnew_; clear hg_ hnew_; (first | rw [← Ny270.out] at ho7 | (simp only [Int.reduceToNat] at ho7; rw [← Ny270.out] at ho7)); have n0_ := Aside0.mk (Kd.R_lower ho7 (below_size (by repeat (first | (with_reducible first | exact HB.out | apply below_alloc | apply pw_below_drewN | apply below_drew1) | exact HB.out)))); have n1_ := Aside0.mk (below_step (by repeat (first | (with_reducible first | exact HB.out | apply below_alloc | apply pw_below_drewN | apply below_drew1) | exact HB.out)) hb); clear HB; have HO272 := n0_; have HB := n1_; clear n0_ n1_; clear hb ho7))
      go_loopg [15] k (fun kq v15 w' => ∃ (x7_1 : List Int) (x15_1 : Int), v15 = .int .i64 x15_1 ∧ Aside0 (block_times.l0 kq l1 a2 x7_1 l0 (l0.length : Int) x15_1 = some r) ∧ Aside0 (kq ≤ k) ∧ Aside0 (Kd.R (Kd.int .i64) 3 w' w.heap.size (fun _ => True) v271 x7_1) ∧ Aside0 (Below w.heap.size w w'))
      case atStart => exact ⟨(y270), (0), (by first | rfl | (simp; done) | (simp [*]; done)), H', ⟨Nat.le_refl _⟩, ⟨by (with_reducible repeat (first | apply Kd.R_alloc | apply Kd.R_drewN | apply Kd.R_drew)); exact HO272.out⟩, ⟨by repeat (first | (with_reducible first | exact HB.out | apply below_alloc | apply pw_below_drewN | apply below_drew1) | exact HB.out)⟩⟩
      case round =>
        clear H'
        try clear c1
        try clear p2
        try clear c4
        try clear c4b0
        try clear c4b1
        try clear c5
        try clear c5b0
        try clear c5b1
        try clear c6
        obtain ⟨x7_1, x15_1, rfl, HA, HK1, HO_7, HB⟩ := hrel
        cases gk with
        | zero => exact absurd HA.out (by simp [block_times.l0])
        | succ k1 =>
          have H := HA.out
          clear HA
          simp only [block_times.l0] at H
          by_cases c8 : x15_1 < (l0.length : Int)
          · rw [if_pos c8] at H
            have c8b0 : decide (x15_1 < (l0.length : Int)) = true := decide_eq_true c8
            clear c8
            by_cases c9 : 0 ≤ x15_1
            · rw [if_pos c9] at H
              have c9b0 : decide (0 ≤ x15_1) = true := decide_eq_true c9
              clear c9
              by_cases c10 : x15_1 < (l0.length : Int)
              · rw [if_pos c10] at H
                have c10b0 : decide (x15_1 < (l0.length : Int)) = true := decide_eq_true c10
                clear c10
                by_cases c11 : x15_1 < (l1.length : Int)
                · rw [if_pos c11] at H
                  have c11b0 : decide (x15_1 < (l1.length : Int)) = true := decide_eq_true c11
                  clear c11
                  replace H := Option.bind_eq_some_iff.mp H
                  obtain ⟨⟨t275, t276⟩, A120, H⟩ := H
                  replace H : (if x15_1 < (x7_1.length : Int) then (block_times.l0 k1 l1 a2 (x7_1.set (x15_1 : Int).toNat t275) l0 (l0.length : Int) (wrap64 (x15_1 + 1))) else (none)) = some r := H
                  have A12 := Aside0.mk A120
                  clear A120
                  by_cases c13 : x15_1 < (x7_1.length : Int)
                  · rw [if_pos c13] at H
                    have c13b0 : decide (x15_1 < (x7_1.length : Int)) = true := decide_eq_true c13
                    clear c13
                    obtain ⟨y277, hy277⟩ : ∃ y_ : List Int, y_ = (x7_1.set (x15_1 : Int).toNat t275) := ⟨_, rfl⟩
                    replace H : (block_times.l0 k1 l1 a2 y277 l0 (l0.length : Int) (wrap64 (x15_1 + 1))) = some r := by first | (rw [hy277]; with_reducible exact H) | (have H2_ := (Option.bind_some _ _).symm.trans H; rw [hy277]; with_reducible exact H2_) | (have H2_ := (Option.bind_some _ _).symm.trans H; with_reducible exact H2_) | with_reducible exact H | (rw [hy277]; exact H) | exact H
                    have Ny277 := Aside0.mk hy277
                    clear hy277
                    have H' := Aside0.mk H
                    clear H
                    have p273 : 0 ≤ (x15_1 : Int) := of_decide_eq_true (by first | (with_reducible assumption) | assumption)
                    have q273 : x15_1 < (l0.length : Int) := of_decide_eq_true (by first | (with_reducible assumption) | assumption)
                    obtain ⟨ad273, e273, hx273_0⟩ := Kd.at_int HR0.out x15_1 p273 q273
                    cases e273
                    replace hx273_0 := (HB.out.cell (World.block_lt_of_cell? w _ hx273_0)).trans hx273_0
                    replace p273 := eq_true p273
                    replace q273 := eq_true q273
                    have p274 : 0 ≤ (x15_1 : Int) := of_decide_eq_true (by first | (with_reducible assumption) | assumption)
                    have q274 : x15_1 < (l1.length : Int) := of_decide_eq_true (by first | (with_reducible assumption) | assumption)
                    obtain ⟨ad274, e274, hx274_0⟩ := Kd.at_int HR1.out x15_1 p274 q274
                    cases e274
                    replace hx274_0 := (HB.out.cell (World.block_lt_of_cell? w _ hx274_0)).trans hx274_0
                    replace p274 := eq_true p274
                    replace q274 := eq_true q274
                    go_wp2_with (first | ((with_reducible refine gate_callee (f := 36) rfl ?_); refine goesL_ (some 30) rfl rfl Tryz.func36 (by kernel_rfl) rfl #[.int .i64 (wrap64 ((rd l0 x15_1) * (rd l1 x15_1))), .int .i64 a2] rfl (by (try simp only [List.map_toArray, List.map_cons, List.map_nil]); first | done | rfl | (simp only [List.length_drop, List.length_take]; rfl)) ?_; (with_reducible refine (fix_Round.calls k1 (wrap64 ((rd l0 x15_1) * (rd l1 x15_1))) a2 t275 t276 _ A12.out).mono ?_); rintro e w' ⟨rfl, ⟨nd, rfl⟩⟩; refine ⟨_, rfl, ?_⟩; (try (rw [drewN_self wr]; generalize hq_ : World.drewN wr _ = wr; have n0_ : Aside0 (Kd.R (Kd.int .i64) 3 wr w.heap.size (fun _ => True) v271 x7_1) := ⟨by rw [← hq_]; exact (by (with_reducible repeat (first | apply Kd.R_alloc | apply Kd.R_drewN | apply Kd.R_drew)); exact HO_7.out)⟩; have n1_ : Aside0 (Below w.heap.size w wr) := ⟨by rw [← hq_]; exact (by repeat (first | (with_reducible first | exact HB.out | apply below_alloc | apply pw_below_drewN | apply below_drew1) | exact HB.out))⟩; clear HO_7 HB hq_; have HO_7 := n0_; have HB := n1_; clear n0_ n1_)); have p14 : 0 ≤ (x15_1 : Int) := of_decide_eq_true (by first | (with_reducible assumption) | assumption); have q14 : (x15_1 : Int) < ((x7_1.length : Int) : Int) := of_decide_eq_true (by first | (with_reducible assumption) | assumption); obtain ⟨go14, co14, eo14, gb14, gl14, cl14, HG14⟩ := Kd.R_form HO_7.out (by omega); (first | cases eo14 | (injection eo14 with ea_ en_ ec_; (first | subst ea_ | (injection ea_ with ea_; subst ea_)); subst ec_; clear en_)); have GB14 := Aside0.mk gb14; have GG14 := Aside0.mk HG14; clear gb14 gl14 HG14; obtain ⟨hx14_0, hf14_0⟩ := Kd.R_celln 0 HO_7.out (x15_1 : Int) p14 q14; replace p14 := eq_true p14; replace q14 := eq_true q14; obtain ⟨hy15_, hz15_⟩ := Kd.R_celln 0 HO_7.out (x15_1 : Int) (of_decide_eq_true (by first | (with_reducible assumption) | assumption)) (of_decide_eq_true (by first | (with_reducible assumption) | assumption)); have HP15 := Kd.R_putg HO_7.out (x15_1 : Int) t275) | ((with_reducible refine gate_store (t := 3) (p := 33) rfl ?_); refine store_event (t := 3) (p := 33) (v := ?vo_w16) (w1 := (wr.setCell ⟨go14, (x15_1 : Int).toNat, none⟩ (.int .i64 t275))) ?hg ?ho ?hn ?hr ?_; (case ho => rfl); (case hg => rfl); (case hn => rfl); (case hr => first | (go_simp; done) | (go_simp; rfl)); intro w16 hw; have hg : wr.grownBy w16 (some go14) := (by rw [hw]; exact HP15.2); have hp_ : Kd.R (Kd.int .i64) 3 w16 w.heap.size (fun _ => True) (.slice (some ⟨go14, 0, none⟩) x7_1.length co14) y277 := (by rw [hw, Ny277.out]; exact HP15.1); clear HP15; have n0_ := Aside0.mk (hp_); have n1_ := Aside0.mk ((by rw [hw]; exact below_set (HB.out) GB14.out : Below w.heap.size w w16)); clear HO_7; clear HB; have HO_7 := n0_; have HB := n1_; clear n0_ n1_; clear hg hw hp_))
                    go_roundg k1
                    case measure => have := HK1.out; omega
                    case rel => exact ⟨(y277), (wrap64 (x15_1 + 1)), (by first | rfl | (simp; done) | (simp [*]; done)), H', ⟨by have := HK1.out; omega⟩, ⟨by (with_reducible repeat (first | apply Kd.R_alloc | apply Kd.R_drewN | apply Kd.R_drew)); exact HO_7.out⟩, ⟨by repeat (first | (with_reducible first | exact HB.out | apply below_alloc | apply pw_below_drewN | apply below_drew1) | exact HB.out)⟩⟩
                  · rw [if_neg c13] at H
                    exact absurd H (by simp)
                · rw [if_neg c11] at H
                  exact absurd H (by simp)
              · rw [if_neg c10] at H
                exact absurd H (by simp)
            · rw [if_neg c9] at H
              exact absurd H (by simp)
          · rw [if_neg c8] at H
            have c8b0 : decide (x15_1 < (l0.length : Int)) = false := decide_eq_false c8
            clear c8
            obtain rfl := Option.some.inj H
            go_wp2
            go_ret
            exact ⟨_, by first | rfl | (simp [errW_none, errW_some] <;> rfl) | (simp [*, errW_none, errW_some] <;> rfl), by (with_reducible repeat (first | apply Kd.R_alloc | apply Kd.R_drewN | apply Kd.R_drew)); exact HO_7.out, by repeat (first | (with_reducible first | exact HB.out | apply below_alloc | apply pw_below_drewN | apply below_drew1) | exact HB.out)⟩
    · rw [if_neg c5] at H
      exact absurd H (by simp)
  · rw [if_neg c4] at H
    exact absurd H (by simp)

end Go.Proofs.YtplmmoaljlnbdaaGreat.Hd
end

section
/- slices.Min, slices.Max at ints, of lists that are not empty; slices.Clone at ints. -/
namespace Go.Proofs.YtplmmoaljlnbdaaGreat.Hd
open Go.RowKit Go.Shelf Go.Proofs.YtplmmoaljlnbdaaGreatW.PrintWords Go.Proofs.YtplmmoaljlnbdaaGreatW.PrintMore
attribute [local go_sem] max2_int min2_int max_two min_two max_three min_three max_four min_four
set_option linter.unusedVariables false
set_option linter.unusedSimpArgs false

def minOf : List Int → Int
  | [] => 0
  | x :: l => l.foldl (fun a b => mn a b) x
def slices_Min_int_int.f (l : List Int) : Option Int := if l.length = 0 then none else if l.length ≤ 1048576 then some (minOf l) else none
set_option maxRecDepth 100000 in
set_option maxHeartbeats 1000000 in
theorem slices_Min_int_int.calls (A0 : Option Addr) (c0 : Nat) (l0 : List Int) (r : Int) (w : World) (hr0 : Kd.C (Kd.int .i64) w A0 l0.length l0) (hc0 : l0.length ≤ c0) (h : slices_Min_int_int.f l0 = some r) :
    Calls Tryz.prog 111 #[.slice A0 l0.length c0] w fun e w' => e = .returned (.int .i64 r) ∧ Below w.heap.size w w' := by
  have HR := Aside0.mk hr0
  clear hr0
  unfold slices_Min_int_int.f at h
  by_cases h0 : l0.length = 0
  · rw [if_pos h0] at h; cases h
  · rw [if_neg h0] at h
    by_cases h1 : l0.length ≤ 1048576
    · rw [if_pos h1] at h
      simp only [Option.some.injEq] at h
      have t0 : decide ((l0.length : Int) < 1) = false := by simp; omega
      have hl0 : 0 < l0.length := by omega
      obtain ⟨x, xs, hx⟩ : ∃ x xs, l0 = x :: xs := by cases l0 with | nil => simp at hl0 | cons x xs => exact ⟨x, xs, rfl⟩
      have hm : minOf l0 = xs.foldl (fun a b => mn a b) x := by rw [hx]; rfl
      obtain ⟨ad, rfl, hcell⟩ := C_at HR.out 0 hl0
      have hg0 : l0.getD 0 0 = x := by rw [hx]; rfl
      rw [hg0] at hcell
      have HX := Aside0.mk hx
      clear hx h0 hg0
      have hz : ad.add 0 = ad := by simp [go_sem]
      rw [hz] at hcell
      go_enter Tryz.func111, Tryz.ntmps111
      go_wp2
      go_loopw [3, 4] (fun a i wr => ∃ (k : Nat) (y : Int), a = .int .i64 y ∧ i = .int .i64 (k : Int) ∧ 1 ≤ k ∧ k ≤ l0.length ∧ Aside0 ((l0.drop k).foldl (fun a b => mn a b) y = r) ∧ wr = w)
        (fun _ i _ => l0.length - (intOf i).toNat)
      case atStart => exact ⟨1, x, rfl, rfl, Nat.le_refl _, hl0, ⟨by rw [← h, hm, HX.out]; rfl⟩, rfl⟩
      case round =>
        obtain ⟨k, y, rfl, rfl, hk1, hk, HS, hw⟩ := hrel
        subst hw
        by_cases hlt : k < l0.length
        · obtain ⟨ad2, hads, hcell2⟩ := C_at HR.out k hlt
          cases hads
          have hx2 : l0.getD k 0 = l0[k] := by simp [hlt]
          rw [hx2] at hcell2
          have HS' : Aside0 ((l0.drop (k + 1)).foldl (fun a b => mn a b) (mn y l0[k]) = r) := ⟨by rw [← HS.out, List.drop_eq_getElem_cons hlt]; rfl⟩
          go_wp2
          go_roundw
          case rel => exact ⟨k + 1, _, rfl, by simp, by omega, by omega, HS', by trivial⟩
          case measure => simp [intOf]; omega
        · have hkl : k = l0.length := by omega
          have hy : y = r := by have := HS.out; rw [hkl, List.drop_length] at this; exact this
          subst hy
          clear HS
          go_wp2
          go_ret
          exact ⟨rfl, Below.refl _ _⟩
    · rw [if_neg h1] at h; cases h

def maxOf : List Int → Int
  | [] => 0
  | x :: l => l.foldl (fun a b => mx a b) x
def slices_Max_int_int.f (l : List Int) : Option Int := if l.length = 0 then none else if l.length ≤ 1048576 then some (maxOf l) else none
set_option maxRecDepth 100000 in
set_option maxHeartbeats 1000000 in
theorem slices_Max_int_int.calls (A0 : Option Addr) (c0 : Nat) (l0 : List Int) (r : Int) (w : World) (hr0 : Kd.C (Kd.int .i64) w A0 l0.length l0) (hc0 : l0.length ≤ c0) (h : slices_Max_int_int.f l0 = some r) :
    Calls Tryz.prog 112 #[.slice A0 l0.length c0] w fun e w' => e = .returned (.int .i64 r) ∧ Below w.heap.size w w' := by
  have HR := Aside0.mk hr0
  clear hr0
  unfold slices_Max_int_int.f at h
  by_cases h0 : l0.length = 0
  · rw [if_pos h0] at h; cases h
  · rw [if_neg h0] at h
    by_cases h1 : l0.length ≤ 1048576
    · rw [if_pos h1] at h
      simp only [Option.some.injEq] at h
      have t0 : decide ((l0.length : Int) < 1) = false := by simp; omega
      have hl0 : 0 < l0.length := by omega
      obtain ⟨x, xs, hx⟩ : ∃ x xs, l0 = x :: xs := by cases l0 with | nil => simp at hl0 | cons x xs => exact ⟨x, xs, rfl⟩
      have hm : maxOf l0 = xs.foldl (fun a b => mx a b) x := by rw [hx]; rfl
      obtain ⟨ad, rfl, hcell⟩ := C_at HR.out 0 hl0
      have hg0 : l0.getD 0 0 = x := by rw [hx]; rfl
      rw [hg0] at hcell
      have HX := Aside0.mk hx
      clear hx h0 hg0
      have hz : ad.add 0 = ad := by simp [go_sem]
      rw [hz] at hcell
      go_enter Tryz.func112, Tryz.ntmps112
      go_wp2
      go_loopw [3, 4] (fun a i wr => ∃ (k : Nat) (y : Int), a = .int .i64 y ∧ i = .int .i64 (k : Int) ∧ 1 ≤ k ∧ k ≤ l0.length ∧ Aside0 ((l0.drop k).foldl (fun a b => mx a b) y = r) ∧ wr = w)
        (fun _ i _ => l0.length - (intOf i).toNat)
      case atStart => exact ⟨1, x, rfl, rfl, Nat.le_refl _, hl0, ⟨by rw [← h, hm, HX.out]; rfl⟩, rfl⟩
      case round =>
        obtain ⟨k, y, rfl, rfl, hk1, hk, HS, hw⟩ := hrel
        subst hw
        by_cases hlt : k < l0.length
        · obtain ⟨ad2, hads, hcell2⟩ := C_at HR.out k hlt
          cases hads
          have hx2 : l0.getD k 0 = l0[k] := by simp [hlt]
          rw [hx2] at hcell2
          have HS' : Aside0 ((l0.drop (k + 1)).foldl (fun a b => mx a b) (mx y l0[k]) = r) := ⟨by rw [← HS.out, List.drop_eq_getElem_cons hlt]; rfl⟩
          go_wp2
          go_roundw
          case rel => exact ⟨k + 1, _, rfl, by simp, by omega, by omega, HS', by trivial⟩
          case measure => simp [intOf]; omega
        · have hkl : k = l0.length := by omega
          have hy : y = r := by have := HS.out; rw [hkl, List.drop_length] at this; exact this
          subst hy
          clear HS
          go_wp2
          go_ret
          exact ⟨rfl, Below.refl _ _⟩
    · rw [if_neg h1] at h; cases h
/-- slices.Clone at ints. -/
theorem cloneInt_calls (A : Option Addr) (c : Nat) (l : List Int) (w : World) (hr : Kd.C (Kd.int .i64) w A l.length l) (hc : l.length ≤ c) (hl : l.length ≤ 1048576) :
    Calls Tryz.prog 38 #[.slice A l.length c] w fun e w' => ∃ v, e = .returned v ∧ Kd.R (Kd.int .i64) 3 w' w.heap.size (fun _ => True) v l ∧ Below w.heap.size w w' := by
  have HR := Aside0.mk hr
  clear hr
  have HB := Aside0.mk (Below.refl w.heap.size w)
  cases A with
  | none =>
    have hn : l = [] := by
      cases l with
      | nil => rfl
      | cons x l => obtain ⟨ad, h, _⟩ := HR.out.2.2 (by simp); cases h
    subst hn
    have hE := fun (w : World) => Lib.run_eql_slice_nil (P := Tryz.prog) w 31 3 none 0 c 0 0 Tryz.underlying31
    go_enter Tryz.func38, Tryz.ntmps38
    go_wp2
    go_ret
    exact ⟨_, rfl, Kd.R_nil _ _ _ _ _, Below.refl _ _⟩
  | some ad =>
    have hE := fun (w : World) => Lib.run_eql_slice_nil (P := Tryz.prog) w 31 3 (some ad) l.length c 0 0 Tryz.underlying31
    have HO0 : ∀ W : World, Kd.R (Kd.int .i64) 3 (W.alloc (.cells #[] 3)) W.heap.size (fun _ => True) (.slice (some ⟨W.heap.size, 0, none⟩) 0 0) ([] : List Int) := fun W =>
      ⟨fun _ _ => trivial, OwnRow.lit W W.heap.size (Reps.none _ _) (Nat.le_refl _) (by simp)⟩
    go_enter Tryz.func38, Tryz.ntmps38
    go_wp2_with (first | ((with_reducible refine gate_builtin (b := .append) (xs := #[.tmp 5, .tmp 6]) rfl ?_); at_builtin; refine Kd.R_append_rows (Kd.int .i64) (w0 := w) w.heap.size rfl (.tmp 5) (.tmp 6) 31 3 (.int .i64 0) 8 rfl Tryz.underlying31 info3 rfl (by decide) (by omega) (.slice (some ⟨w.heap.size, 0, none⟩) 0 0) ([] : List Int) l _ _ _ (fun _ => True) (fun _ => False) rfl rfl ?aO ?aR (fun _ _ h => h) (fun _ h => h.elim) ?aF ?aB ?aS ?aL ?_; (case aR => exact Kd.C_alloc HR.out _); (case aB => exact below_alloc HB.out _); (case aF => exact (fun _ _ => trivial)); (case aO => exact HO0 w); (case aS => simp); (case aL => simp; omega); intro v110 w12 ho hb hg hat; have n0_ := Aside0.mk hb; have n1_ := Aside0.mk ho; clear ho hb hg hat))
    go_ret
    exact ⟨_, rfl, by simpa using n1_.out, n0_.out⟩

end Go.Proofs.YtplmmoaljlnbdaaGreat.Hd
end

section
-- Written by a program of this session (wip/hprint.py), out of the translation's own print.
namespace Go.Proofs.YtplmmoaljlnbdaaGreat.Hd
open Go.RowKit Go.Proofs.YtplmmoaljlnbdaaGreatW.PrintWords Go.Proofs.YtplmmoaljlnbdaaGreatW.PrintLast Go.Proofs.YtplmmoaljlnbdaaGreatW.PrintMore Go.Proofs.YtplmmoaljlnbdaaGreat.Hd
attribute [local go_sem] max2_int min2_int max_two min_two max_three min_three max_four min_four   -- for this text's walks alone
set_option linter.unusedVariables false
set_option linter.unusedSimpArgs false


end Go.Proofs.YtplmmoaljlnbdaaGreat.Hd
end
