/- Contracts of package bits (and of slices.Clone, slices.AppendSeq at bytes), proved by hand in the printed form. -/
import Derived.Test.YtccnicigldjcdaaProg
import Derived.Test.YtccnicigldjcdaaHKit
namespace Go.Proofs.Ytccnicigldjcdaa.H
open Go.RowKit Go.Shelf Go.Proofs.YtccnicigldjcdaaW.PrintWords Go.Proofs.YtccnicigldjcdaaW.PrintMore
set_option linter.unusedVariables false
set_option linter.unusedSimpArgs false
attribute [local go_sem] Oper.semAt_some

theorem info_u8 : (Try.prog.info? 5).map (fun i => (i.zero, i.size, i.bytes)) = some (some (.int .u8 0), 1, 1) := by kernel_rfl

/-- One bit of a number, as the code takes it. -/
def bitAt (n : Int) (i : Nat) : Int := Go.bits .and .i64 (n / 2 ^ i) 1 % 256
/-- A number's bits, the highest first. -/
def bitsOf (n : Int) : Nat → List Int
  | 0 => []
  | s + 1 => bitAt n s :: bitsOf n s
theorem bitsOf_length (n : Int) (s : Nat) : (bitsOf n s).length = s := by induction s with | zero => rfl | succ s ih => simp [bitsOf, ih]

set_option maxRecDepth 100000 in
set_option maxHeartbeats 1000000 in
theorem each1_in (F : Fence) (n : Nat) (hF : F.fn 26) (hro : F.round = none) (hn : 1 ≤ n) (l Bs Bn n₀ : Nat) (S : Nat → Prop) (num : Int) (size : Nat) (hsz : size ≤ 63) (hSn : S Bn)
    (J Jx : List Int → World → Prop)
    (hY : ∀ pre x W, J pre W → pre.length < size → YieldAt F (n - 1) Try.prog l #[.int .u8 x] W fun e W' =>
      (e = .returned (.bool true) ∧ J (pre ++ [x]) W' ∧ Kpt n₀ S W W') ∨ (e = .returned (.bool false) ∧ Jx (pre ++ [x]) W'))
    (W : World) (hcs : W.cell? ⟨Bs, 0, none⟩ = some (.int .i64 (size : Int))) (hcn : W.cell? ⟨Bn, 0, none⟩ = some (.int .i64 num)) (h0 : J [] W) :
    CallsIn F n Try.prog 26 #[.func (.yield l) #[] #[], .pointer (some ⟨Bs, 0, none⟩), .pointer (some ⟨Bn, 0, none⟩)] W fun e W' => (∃ v, e = .returned v) ∧
      ((∃ ys, ys = bitsOf num size ∧ J ys W') ∨ (∃ pre, pre <+: bitsOf num size ∧ Jx pre W')) := by
  refine callsIn_of_wp Try.func26 rfl hF ?_ hro
  simp only [Try.ntmps26, List.size_toArray, List.length_cons, List.length_nil, Nat.reduceAdd, Nat.reduceSub, Array.replicate_succ, Array.replicate_zero, List.push_toArray, List.append_toArray, List.nil_append, List.cons_append]
  gi_wp2
  gi_loopw [4] (fun i wr => ∃ (s : Nat) (x : Int) (pre : List Int), i = .int .i64 x ∧ x + 1 ≤ s ∧ s ≤ x + 1 ∧ s ≤ size ∧ bitsOf num size = pre ++ bitsOf num s ∧ pre.length + s ≤ size ∧ J pre wr ∧ Kpt n₀ S W wr)
    (fun i _ => (intOf i + 1).toNat)
  case atStart => exact ⟨size, (size : Int) - 1, [], rfl, by omega, by omega, by omega, rfl, by simp, h0, Kpt.refl _ _ _⟩
  case round =>
    obtain ⟨s, x, pre, rfl, h1, h2, h3, hx, hp, hJ, hB⟩ := hrel
    have Hx := Lib.hid hx
    clear hx
    cases s with
    | zero =>
      have h4 : x < 0 := by omega
      gi_wp2
      go_end0
      exact ⟨⟨_, rfl⟩, .inl ⟨pre, by have := Hx.out; simpa [bitsOf] using this.symm, hJ⟩⟩
    | succ s =>
      obtain rfl : x = (s : Int) := by omega
      have hcn' : wr.cell? ⟨Bn, 0, none⟩ = some (.int .i64 num) := (hB.cell (p := ⟨Bn, 0, none⟩) (.inr hSn)).trans hcn
      obtain ⟨fn, tmps, assign, body, hy, hR⟩ := hY pre (Go.bits .and .i64 (num / 2 ^ s) 1 % 256) wr hJ (by omega)
      gi_wp2
      refine hR.mono ?_
      rintro e W3 (⟨rfl, hJ3, hk3⟩ | ⟨rfl, hJx3⟩)
      · gi_wp2
        go_roundw
        case rel => exact ⟨s, (s : Int) - 1, pre ++ [bitAt num s], rfl, by omega, by omega, by omega, by rw [Hx.out]; simp [bitsOf], by simp; omega, hJ3, hB.trans hk3⟩
        case measure => simp [intOf]
      · gi_wp2
        refine bodyPost_ret (results_none rfl _ _ _) rfl ?_
        exact ⟨⟨_, rfl⟩, .inr ⟨pre ++ [bitAt num s], ⟨bitsOf num s, by rw [Hx.out]; simp [bitsOf]⟩, hJx3⟩⟩

set_option maxHeartbeats 1000000 in
theorem each_in (F : Fence) (n : Nat) (hF : F.fn 19) (hro : F.round = none) (num size : Int) (w : World) :
    CallsIn F n Try.prog 19 #[.int .i64 num, .int .i64 size] w fun e w' => e = .returned (.func (.func 26) #[] #[.pointer (some ⟨w.heap.size + 1, 0, none⟩), .pointer (some ⟨w.heap.size, 0, none⟩)]) ∧
      w' = (w.alloc (.cells #[.int .i64 num] 3)).alloc (.cells #[.int .i64 size] 3) := by
  refine callsIn_of_wp Try.func19 rfl hF ?_ hro
  simp only [Try.ntmps19, List.size_toArray, List.length_cons, List.length_nil, Nat.reduceAdd, Nat.reduceSub, Array.replicate_succ, Array.replicate_zero, List.push_toArray, List.append_toArray, List.nil_append, List.cons_append]
  gi_wp2
  go_ret
  exact ⟨rfl, rfl⟩

theorem each_stops (F : Fence) (n : Nat) (hF : F.fn 26) (hro : F.round = none) (hn : 1 ≤ n) (Bs Bn n₀ : Nat) (S : Nat → Prop) (num : Int) (size : Nat) (hsz : size ≤ 63) (w : World) (hSn : S Bn) (hBs : Bs < w.heap.size) (hBn : Bn < w.heap.size)
    (hcs : w.cell? ⟨Bs, 0, none⟩ = some (.int .i64 (size : Int))) (hcn : w.cell? ⟨Bn, 0, none⟩ = some (.int .i64 num)) :
    SeqStopsK F n Try.prog 26 #[.pointer (some ⟨Bs, 0, none⟩), .pointer (some ⟨Bn, 0, none⟩)] (fun x : Int => #[Value.int .u8 x]) (Kpt n₀ S) (fun ys => ys = bitsOf num size) (fun pre => pre <+: bitsOf num size) size w := fun l J Jx W hW _ _ hY h0 =>
  each1_in F n hF hro hn l Bs Bn n₀ S num size hsz hSn J Jx hY W ((hW.cell (p := ⟨Bs, 0, none⟩) hBs).trans hcs) ((hW.cell (p := ⟨Bn, 0, none⟩) hBn).trans hcn) h0

set_option maxRecDepth 100000 in
set_option maxHeartbeats 2000000 in
/-- slices.AppendSeq at bytes, whatever the iterator. -/
theorem appendSeq_calls (gf : Nat) (lb : Array Value) (eg : ∀ args w, (callFunc gf args).run Try.prog w = .ok (.enter gf args) w) (n₀ base : Nat) (S : Nat → Prop) (Sp : List Int → Prop) (xs l0 : List Int) (v : Value) (w : World)
    (hS : ∀ k, S k → k < w.heap.size) (hn0 : n₀ ≤ base) (hbase : base ≤ w.heap.size) (HO : Kd.R (Kd.int .u8) 5 w base (fun k => ¬ S k) v l0)
    (hseq : SeqStopsK Fence.wide 9 Try.prog gf lb (fun x : Int => #[Value.int .u8 x]) (Kpt n₀ S) (fun ys => ys = xs) Sp xs.length w) (hl : l0.length + xs.length < 140737488355328) :
    Calls Try.prog 22 #[v, .func (.func gf) #[] lb] w fun e W' => ∃ v', e = .returned v' ∧ Kd.R (Kd.int .u8) 5 W' base (fun k => ¬ S k) v' (l0 ++ xs) ∧ Below base w W' := by
  obtain ⟨A0, c0, rfl⟩ := Kd.R_slice HO
  refine callsIn_wide.1 (callsIn_of_wp_marks (n := 10) Try.func22 rfl trivial ?_)
  simp only [Try.ntmps22, List.size_toArray, List.length_cons, List.length_nil, Nat.reduceAdd, Nat.reduceSub, Array.replicate_succ, Array.replicate_zero, List.push_toArray, List.append_toArray, List.nil_append, List.cons_append]
  gi_wp2
  have hB0 : Below base w (w.alloc (.cells #[.slice A0 l0.length c0] 22)) := (Below.refl _ _).alloc hbase _
  have bS := Boxed.new w 22 (.slice A0 l0.length c0)
  refine wpIn_rangeFunc_ownG (n := 10) rfl (by omega) (gf := gf) (lb := lb) rfl trivial eg hseq Kpt.trans (Kpt.book ?bk1 ?bk2) ((Below.refl _ _).alloc (Nat.le_refl _) _) (fun _ => rfl)
    (fun pre W => (∃ v, Boxed W w.heap.size 22 v ∧ Kd.R (Kd.int .u8) 5 W base (fun k => ¬ S k) v (l0 ++ pre)) ∧ Below base w W ∧ Kpt n₀ S w W)
    (fun _ _ _ => False) ?own
    (fun _ _ _ _ _ hs _ _ => hs)
    ⟨⟨_, bS, by rw [List.append_nil]; exact Kd.R_alloc HO _⟩, hB0, (Kpt.refl _ _ _).alloc (by omega) hS _⟩
    (fun x => { tmps := #[.slice A0 l0.length c0, .func (.func gf) #[] lb, .pointer (some ⟨w.heap.size, 0, none⟩), undef, .slice none 0 0, .int .u8 x, .func (.func gf) #[] lb, .int .u8 x, undef, undef, undef, undef, undef], defers := [] }) ?assign ?body ?done ?stop
  case bk1 => simp; omega
  case bk2 => exact fun k hk => by have := hS k hk; simp; omega
  case own =>
    refine OwnFrom.and ?_ (OwnFrom.and (ownFrom_below hbase (by simp; omega)) (Kpt.own (by omega) (by simp; omega) hS (fun k hk => by have := hS k hk; simp; omega)))
    rintro pre X Y row ⟨v, hv, hR⟩ hg hr
    exact ⟨v, hv.kept hg (fun e' => by obtain ⟨o, ho, hc⟩ := (hr _ e'.symm).2; rw [show X.heap[w.heap.size]? = _ from hv] at ho; cases ho; cases hc), R_own hR hg (fun r e' => (hr r e').2)⟩
  case assign =>
    intro l x W K hK
    gi_wp2
    exact hK
  case body =>
    rintro l pre x W ⟨⟨v, hv, hR⟩, hB, hK⟩ hlt
    obtain ⟨ys, hys⟩ : ∃ ys, ys = l0 ++ pre := ⟨_, rfl⟩
    obtain ⟨zs, hzs⟩ : ∃ zs, zs = ys ++ [x] := ⟨_, rfl⟩
    have hyl : ys.length < 140737488355328 := by rw [hys]; simp; omega
    rw [← hys] at hR
    have HY := Aside0.mk hys
    have HZ := Aside0.mk hzs
    clear hys hzs
    obtain ⟨A, c, rfl⟩ := Kd.R_slice hR
    have HR := Aside0.mk hR
    have HB := Aside0.mk hB
    have HK := Aside0.mk hK
    have HS := Aside0.mk hS
    have HQ := Aside0.mk hseq
    clear hR hB hK hS hseq HO
    have hsz : w.heap.size ≤ W.heap.size := HB.out.size
    have hc := hv.cell
    gi_wp2_with (gi_at_builtin; refine R_appendIn (Kd.int .u8) (w0 := w) base rfl (.tmp 8) (.tmp 10) 22 5 (.int .u8 0) 1 rfl Try.underlying22 info_u8 rfl (by decide) (by omega) (.slice A ys.length c) ys x [.int .u8 x] (fun k => ¬ S k) (fun _ => False) rfl rfl rfl (fun _ h => h.elim) ?aF HR.out HB.out ?aS ?aL ?_; (case aF => exact fun k hk hs => by have := HS.out k hs; omega); (case aS => omega); (case aL => omega); intro v1 w1 ho hb hg hat; rw [← HZ.out] at ho; obtain ⟨A1, c1, rfl⟩ := Kd.R_slice ho; have hv1 := Boxed.beside hv (by decide) HR.out hg; have hc1 := hv1.cell; have hf1 := hv1.frozen; have n0_ := Aside0.mk ho; have n1_ := Aside0.mk hb; have n2_ := Aside0.mk hg; clear ho hb hg hat)
    have hW : ∀ k, S k → k < W.heap.size := fun k hk => Nat.lt_of_lt_of_le (HS.out k hk) hsz
    have k1 : Kpt n₀ S W w1 := (Kpt.refl n₀ S W).grown (by omega) hW n2_.out (fun k e => ⟨Nat.le_trans hn0 (Kd.R_base HR.out k e), HR.out.1 k e⟩)
    have k2 := k1.grown (by omega) hW (grownBy_setCell' w1 w.heap.size (.slice A1 zs.length c1)) (fun k e => by cases e; exact ⟨by omega, fun hs => by have := HS.out _ hs; omega⟩)
    refine ⟨((R_keepsOthers HR.out n2_.out).trans (KeepsOthers.setCell _ _ _)).from _, k2, ⟨.slice A1 zs.length c1, hv1.set _, ?_⟩, n1_.out.setCell (p := ⟨w.heap.size, 0, none⟩) hbase _, HK.out.trans k2⟩
    rw [← List.append_assoc, ← HY.out, ← HZ.out]
    exact Kd.R_set n0_.out hv1 (by decide) 0 (.slice A1 zs.length c1)
  case done =>
    rintro D ys W hD rfl ⟨⟨v, hv, hR⟩, hB, hK⟩ hKD
    obtain ⟨zs, hzs⟩ : ∃ zs, zs = l0 ++ ys := ⟨_, rfl⟩
    rw [← hzs] at hR
    have HZ := Aside0.mk hzs
    clear hzs
    obtain ⟨A, c, rfl⟩ := Kd.R_slice hR
    have hc := hv.cell
    have HR := Aside0.mk hR
    have HB := Aside0.mk hB
    clear hR hB hK hS hseq HO
    gi_wp2
    refine ⟨by simp, .inl ⟨_, _, rfl, run_takeDeferred hKD, ?_⟩⟩
    exact ⟨_, results_tmp rfl _ _ _, _, rfl, by rw [← HZ.out]; exact R_putObj HR.out _ hKD rfl, HB.out.trans (belowK_b (w := w) hbase W D _ _ (by simp at hD; omega) hKD rfl rfl)⟩
  case stop =>
    rintro D c pre W _ _ h _
    exact h.elim

/-- slices.Clone at bytes. -/
theorem clone_calls (A : Option Addr) (c : Nat) (l : List Int) (w : World) (hr : Kd.C (Kd.int .u8) w A l.length l) (hc : l.length ≤ c) (hl : l.length < 140737488355328) :
    Calls Try.prog 23 #[.slice A l.length c] w fun e w' => ∃ v, e = .returned v ∧ Kd.R (Kd.int .u8) 5 w' w.heap.size (fun _ => True) v l ∧ Below w.heap.size w w' := by
  have HR := Aside0.mk hr
  clear hr
  have HB := Aside0.mk (Below.refl w.heap.size w)
  cases A with
  | none =>
    have hn : l = [] := by
      cases l with
      | nil => rfl
      | cons x l => obtain ⟨ad, h, _⟩ := HR.out.2.2 (by simp); cases h
    subst hn
    have hE := fun (w : World) => Lib.run_eql_slice_nil (P := Try.prog) w 22 5 none 0 c 0 0 Try.underlying22
    go_enter Try.func23, Try.ntmps23
    go_wp2
    go_ret
    exact ⟨_, rfl, Kd.R_nil _ _ _ _ _, Below.refl _ _⟩
  | some ad =>
    have hE := fun (w : World) => Lib.run_eql_slice_nil (P := Try.prog) w 22 5 (some ad) l.length c 0 0 Try.underlying22
    have HO0 : ∀ W : World, Kd.R (Kd.int .u8) 5 (W.alloc (.cells #[] 5)) W.heap.size (fun _ => True) (.slice (some ⟨W.heap.size, 0, none⟩) 0 0) ([] : List Int) := fun W =>
      ⟨fun _ _ => trivial, OwnRow.lit W W.heap.size (Reps.none _ _) (Nat.le_refl _) (by simp)⟩
    go_enter Try.func23, Try.ntmps23
    go_wp2_with (first | ((with_reducible refine gate_builtin (b := .append) (xs := #[.tmp 5, .tmp 6]) rfl ?_); at_builtin; refine Kd.R_append_rows (Kd.int .u8) (w0 := w) w.heap.size rfl (.tmp 5) (.tmp 6) 22 5 (.int .u8 0) 1 rfl Try.underlying22 info_u8 rfl (by decide) (by omega) (.slice (some ⟨w.heap.size, 0, none⟩) 0 0) ([] : List Int) l _ _ _ (fun _ => True) (fun _ => False) rfl rfl ?aO ?aR (fun _ _ h => h) (fun _ h => h.elim) ?aF ?aB ?aS ?aL ?_; (case aR => exact Kd.C_alloc HR.out _); (case aB => exact below_alloc HB.out _); (case aF => exact (fun _ _ => trivial)); (case aO => exact HO0 w); (case aS => simp); (case aL => simp; omega); intro v110 w12 ho hb hg hat; have n0_ := Aside0.mk hb; have n1_ := Aside0.mk ho; clear ho hb hg hat))
    go_ret
    exact ⟨_, rfl, by simpa using n1_.out, n0_.out⟩

theorem each_calls (num size : Int) (w : World) :
    Calls Try.prog 19 #[.int .i64 num, .int .i64 size] w fun e w' => e = .returned (.func (.func 26) #[] #[.pointer (some ⟨w.heap.size + 1, 0, none⟩), .pointer (some ⟨w.heap.size, 0, none⟩)]) ∧
      w' = (w.alloc (.cells #[.int .i64 num] 3)).alloc (.cells #[.int .i64 size] 3) := callsIn_wide.1 (each_in Fence.wide 0 trivial rfl num size w)

def bits_Put.f (l0 : List Int) (a1 : Int) (a2 : Int) : Option (List Int × Int) :=
  if 0 ≤ a2 then (if a2 ≤ 31 then (if 0 ≤ a1 then (if a1 / 2 ^ a2.toNat = 0 then (if l0.length + 31 < 140737488355328 then some (l0 ++ bitsOf a1 a2.toNat, 0) else none) else some ([], 2)) else some ([], 2)) else some ([], 2)) else some ([], 2)

theorem bits_Put.calls (A0 : Option Addr) (c0 : Nat) (l0 : List Int) (a1 : Int) (a2 : Int) (r1 : List Int) (r2 : Int) (w : World) (hr0 : Kd.C (Kd.int .u8) w A0 l0.length l0) (hc0 : l0.length ≤ c0) (h : bits_Put.f l0 a1 a2 = some (r1, r2)) :
    Calls Try.prog 13 #[.slice A0 l0.length c0, .int .i64 a1, .int .i64 a2] w fun e w' => ∃ v0_ : Value, e = .returned (.tuple #[v0_, .int .i64 r2]) ∧ Kd.R (Kd.int .u8) 5 w' w.heap.size (fun _ => True) v0_ r1 ∧ Below w.heap.size w w' := by
  have HR0 := Aside0.mk hr0
  clear hr0
  unfold bits_Put.f at h
  have bad : ∀ (hh : some (([] : List Int), (2 : Int)) = some (r1, r2)), r1 = [] ∧ r2 = 2 := fun hh => by simp at hh; exact ⟨hh.1, hh.2.symm⟩
  by_cases h1 : 0 ≤ a2
  · rw [if_pos h1] at h
    by_cases h2 : a2 ≤ 31
    · rw [if_pos h2] at h
      by_cases h3 : 0 ≤ a1
      · rw [if_pos h3] at h
        by_cases h4 : a1 / 2 ^ a2.toNat = 0
        · rw [if_pos h4] at h
          by_cases h5 : l0.length + 31 < 140737488355328
          · rw [if_pos h5] at h
            simp only [Option.some.injEq, Prod.mk.injEq] at h
            obtain ⟨rfl, rfl⟩ := h
            obtain ⟨n, rfl⟩ := Int.eq_ofNat_of_zero_le h1
            have t1 : (a1 / 2 ^ n != 0) = false := by simpa using h4
            have t0 : (a1 / 2 ^ n == 0) = true := by simpa using h4
            clear h4 bad
            go_enter Try.func13, Try.ntmps13
            go_wp2_with (first | (go_at_call 21; go_in) | (go_at_call 23; refine (clone_calls A0 c0 l0 _ HR0.out hc0 (by omega)).mono ?_; rintro e w1 ⟨v, rfl, ho, hb⟩; have HO := Aside0.mk ho; have HB := Aside0.mk hb; clear ho hb) | (go_at_call 19; refine (each_calls _ _ _).mono ?_; rintro e w2 ⟨rfl, rfl⟩))
            have b1 := (Boxed.new w1 3 (.int .i64 a1)).alloc (.cells #[.int .i64 (n : Int)] 3)
            have b2 := Boxed.new (w1.alloc (.cells #[.int .i64 a1] 3)) 3 (.int .i64 (n : Int))
            rw [World.size_alloc] at b2
            have HO3 : Kd.R (Kd.int .u8) 5 ((w1.alloc (.cells #[.int .i64 a1] 3)).alloc (.cells #[.int .i64 (n : Int)] 3)) w.heap.size (fun k => ¬ k = w1.heap.size) v l0 :=
              Kd.R_alloc (Kd.R_alloc (Kd.R_mono (Kd.R_bound HO.out) (fun k hk hs => by have := hk.2.2.1; omega)) _) _
            have hw1 := HB.out.size
            refine (appendSeq_calls 26 _ (enters_of Try.func26 (by kernel_rfl) rfl) 0 w.heap.size (fun k => k = w1.heap.size) _ (bitsOf a1 n) l0 v _ (by simp; omega) (Nat.zero_le _) (by simp; omega) HO3
              (by rw [bitsOf_length]; exact each_stops Fence.wide 9 trivial rfl (by omega) (w1.heap.size + 1) w1.heap.size 0 (fun k => k = w1.heap.size) a1 n (by omega) _ rfl (by simp) (by simp; omega) b2.cell b1.cell) (by rw [bitsOf_length]; omega)).mono ?_
            rintro e w3 ⟨v3, rfl, ho3, hb3⟩
            have HO4 := Aside0.mk ho3
            have HB4 := Aside0.mk hb3
            clear ho3 hb3 HO3 b1 b2
            go_wp2
            go_ret2
            exact ⟨_, rfl, Kd.R_mono HO4.out (fun _ _ => trivial), ((HB.out.alloc hw1 _).alloc (by simp; omega) _).trans HB4.out⟩
          · rw [if_neg h5] at h
            exact absurd h (by simp)
        · rw [if_neg h4] at h
          obtain ⟨rfl, rfl⟩ := bad h
          obtain ⟨n, rfl⟩ := Int.eq_ofNat_of_zero_le h1
          have t1 : (a1 / 2 ^ n != 0) = true := by simpa using h4
          have t0 : (a1 / 2 ^ n == 0) = false := by simpa using h4
          clear h4 bad
          go_enter Try.func13, Try.ntmps13
          go_wp2
          go_ret2
          exact ⟨_, rfl, Kd.R_nil _ _ _ _ _, by repeat (first | exact Below.refl _ _ | apply pw_below_drewN)⟩
      · rw [if_neg h3] at h
        obtain ⟨rfl, rfl⟩ := bad h
        clear bad
        go_enter Try.func13, Try.ntmps13
        go_wp2
        go_ret2
        exact ⟨_, rfl, Kd.R_nil _ _ _ _ _, by repeat (first | exact Below.refl _ _ | apply pw_below_drewN)⟩
    · rw [if_neg h2] at h
      obtain ⟨rfl, rfl⟩ := bad h
      clear bad
      go_enter Try.func13, Try.ntmps13
      go_wp2
      go_ret2
      exact ⟨_, rfl, Kd.R_nil _ _ _ _ _, by repeat (first | exact Below.refl _ _ | apply pw_below_drewN)⟩
  · rw [if_neg h1] at h
    obtain ⟨rfl, rfl⟩ := bad h
    clear bad
    go_enter Try.func13, Try.ntmps13
    go_wp2
    go_ret2
    exact ⟨_, rfl, Kd.R_nil _ _ _ _ _, by repeat (first | exact Below.refl _ _ | apply pw_below_drewN)⟩

theorem flat8_length (l : List Int) : (l.flatMap fun c => bitsOf (wrap64 c) 8).length = 8 * l.length := by
  induction l with
  | nil => rfl
  | cons c l ih => rw [List.flatMap_cons, List.length_append, ih, bitsOf_length, List.length_cons]; omega
def bits_Unpack.f (l0 : List Int) : Option (List Int × Int) := if (l0.length : Int) > 2097152 then some ([], 3) else some (l0.flatMap (fun c => bitsOf (wrap64 c) 8), 0)

set_option maxRecDepth 100000 in
set_option maxHeartbeats 2000000 in
theorem bits_Unpack.calls (A0 : Option Addr) (c0 : Nat) (l0 : List Int) (r1 : List Int) (r2 : Int) (w : World) (hr0 : Kd.C (Kd.int .u8) w A0 l0.length l0) (hc0 : l0.length ≤ c0) (h : bits_Unpack.f l0 = some (r1, r2)) :
    Calls Try.prog 11 #[.slice A0 l0.length c0] w fun e w' => ∃ v0_ : Value, e = .returned (.tuple #[v0_, .int .i64 r2]) ∧ Kd.R (Kd.int .u8) 5 w' w.heap.size (fun _ => True) v0_ r1 ∧ Below w.heap.size w w' := by
  have HR0 := Aside0.mk hr0
  clear hr0
  unfold bits_Unpack.f at h
  by_cases h1 : (l0.length : Int) > 2097152
  · rw [if_pos h1] at h
    simp only [Option.some.injEq, Prod.mk.injEq] at h
    obtain ⟨rfl, rfl⟩ := h
    go_enter Try.func11, Try.ntmps11
    go_wp2
    go_ret2
    exact ⟨_, rfl, Kd.R_nil _ _ _ _ _, Below.refl _ _⟩
  · rw [if_neg h1] at h
    simp only [Option.some.injEq, Prod.mk.injEq] at h
    obtain ⟨rfl, rfl⟩ := h
    refine callsIn_wide.1 (callsIn_of_wp_marks (n := 10) Try.func11 rfl trivial ?_)
    simp only [Try.ntmps11, List.size_toArray, List.length_cons, List.length_nil, Nat.reduceAdd, Nat.reduceSub, Array.replicate_succ, Array.replicate_zero, List.push_toArray, List.append_toArray, List.nil_append, List.cons_append]
    obtain ⟨i0, hi, hz0, hz1, hz2⟩ := info_parts info_u8
    have hmk := fun W => run_make (P := Try.prog) W 22 5 i0 (.int .u8 0) Try.underlying22 hi hz0 .i64 .i64 0 (8 * (l0.length : Int)) (by omega) (by omega) (by rw [hz2]; omega) (by omega)
    gi_wp2
    clear hmk
    have b0 := Boxed.new (w.alloc (.cells (madeCells #[.int .u8 0] (8 * l0.length)) 5)) 22 (.slice (some ⟨w.heap.size, 0, none⟩) 0 (8 * l0.length))
    rw [World.size_alloc] at b0
    have r0 : Kd.R (Kd.int .u8) 5 (w.alloc (.cells (madeCells #[.int .u8 0] (8 * l0.length)) 5)) w.heap.size (fun _ => True) (.slice (some ⟨w.heap.size, 0, none⟩) 0 (8 * l0.length)) ([] : List Int) :=
      ⟨fun _ _ => trivial, [], ⟨rfl, .inr ⟨w.heap.size, _, _, rfl, Nat.le_refl _, heap_alloc_new _ _, by simp, by simp only [maxLen]; omega, by simp [size_madeCells, Kd.int, Kd.scalar], by simp⟩⟩, Reps.none _ _⟩
    refine wpIn_loop (fun a' wr => ∃ (k : Nat) (v : Value) (ds : List Deferred) (u6 u7 u18 u19 u20 u21 u22 u23 u24 u25 u26 u27 u28 u29 : Value),
        a' = { tmps := #[.slice A0 l0.length c0, undef, .slice none 0 0, .int .i64 0, .pointer (some ⟨w.heap.size + 1, 0, none⟩), undef, u6, u7, .slice A0 l0.length c0, .int .i64 (l0.length : Int), .bool false, .slice A0 l0.length c0, .int .i64 (l0.length : Int), .int .i64 (8 * (l0.length : Int)), .slice (some ⟨w.heap.size, 0, none⟩) 0 (8 * l0.length), .slice A0 l0.length c0, .int .i64 (l0.length : Int), .int .i64 (k : Int), u18, u19, u20, u21, u22, u23, u24, u25, u26, u27, u28, u29, undef], defers := ds } ∧
        k ≤ l0.length ∧ Boxed wr (w.heap.size + 1) 22 v ∧ Aside0 (Kd.R (Kd.int .u8) 5 wr w.heap.size (fun _ => True) v ((l0.take k).flatMap fun c => bitsOf (wrap64 c) 8)) ∧ Aside0 (Below w.heap.size w wr) ∧ Aside0 (Marks w.heap.size ds wr))
      (fun a' _ => l0.length - (intOf (a'.tmps.getD 17 undef)).toNat) ?start ?round
    case start => exact ⟨0, _, [], undef, undef, undef, undef, undef, undef, undef, undef, undef, undef, undef, undef, undef, undef, rfl, Nat.zero_le _, b0, ⟨by simpa using Kd.R_alloc r0 _⟩, ⟨((Below.refl _ _).alloc (Nat.le_refl _) _).alloc (by simp) _⟩, ⟨Marks.nil _ _⟩⟩
    case round =>
      clear b0 r0
      rintro a' wr ⟨k, v, ds, u6, u7, u18, u19, u20, u21, u22, u23, u24, u25, u26, u27, u28, u29, rfl, hk, hv0, HR, HB, HM⟩
      have hc0_ := hv0.cell
      by_cases hlt : k < l0.length
      · obtain ⟨ad, rfl, hcell⟩ := C_at (Kd.C_below HR0.out HB.out) k hlt
        gi_wp2_with (refine ⟨trivial, ?_⟩; gi_at_call 19; refine (each_in Fence.wide _ trivial rfl _ _ _).mono ?_; rintro e w2 ⟨rfl, rfl⟩)
        have b1 := (Boxed.new wr 3 (.int .i64 (wrap64 l0[k]))).alloc (.cells #[.int .i64 8] 3)
        have b2 := Boxed.new (wr.alloc (.cells #[.int .i64 (wrap64 l0[k])] 3)) 3 (.int .i64 8)
        rw [World.size_alloc] at b2
        have hwr := HB.out.size
        obtain ⟨acc, hacc⟩ : ∃ acc, acc = (l0.take k).flatMap (fun c => bitsOf (wrap64 c) 8) := ⟨_, rfl⟩
        rw [← hacc] at HR
        have hal : acc.length = 8 * k := by rw [hacc, flat8_length, List.length_take]; omega
        have HACC := Aside0.mk hacc
        clear hacc
        obtain ⟨W0, hW0⟩ : ∃ W0, (wr.alloc (.cells #[.int .i64 (wrap64 l0[k])] 3)).alloc (.cells #[.int .i64 8] 3) = W0 := ⟨_, rfl⟩
        rw [hW0] at b1 b2 ⊢
        have hs0 : W0.heap.size = wr.heap.size + 2 := by rw [← hW0]; simp
        have hb0 : Below w.heap.size wr W0 := by rw [← hW0]; exact ((Below.refl _ _).alloc hwr _).alloc (by simp; omega) _
        have hk0 : KeepsFrom w.heap.size wr W0 := by rw [← hW0]; exact ((KeepsOthers.alloc _ _).trans (KeepsOthers.alloc _ _)).from _
        have r1 : Kd.R (Kd.int .u8) 5 W0 w.heap.size (fun q => ¬ q = wr.heap.size) v acc := by rw [← hW0]; exact Kd.R_alloc (Kd.R_alloc (Kd.R_mono (Kd.R_bound HR.out) (fun q hq hs => by have := hq.2.2.1; omega)) _) _
        have v1 : Boxed W0 (w.heap.size + 1) 22 v := by rw [← hW0]; exact (hv0.alloc _).alloc _
        clear hW0
        refine wpIn_rangeFunc_ownG (n := 10) rfl (by omega) (gf := 26) (lb := #[.pointer (some ⟨wr.heap.size + 1, 0, none⟩), .pointer (some ⟨wr.heap.size, 0, none⟩)]) rfl trivial (enters_of Try.func26 (by kernel_rfl) rfl)
          (each_stops Fence.wide 9 trivial rfl (by omega) (wr.heap.size + 1) wr.heap.size 0 (fun q => q = wr.heap.size) (wrap64 l0[k]) 8 (by omega) W0 rfl (by omega) (by omega) (by exact b2.cell) b1.cell)
          Kpt.trans (Kpt.book ?bk1 ?bk2) (Below.refl _ _) (fun _ => rfl)
          (fun pre W => (∃ v, Boxed W (w.heap.size + 1) 22 v ∧ Kd.R (Kd.int .u8) 5 W w.heap.size (fun q => ¬ q = wr.heap.size) v (acc ++ pre)) ∧ (Below w.heap.size wr W ∧ KeepsFrom w.heap.size wr W) ∧ Kpt 0 (fun q => q = wr.heap.size) W0 W)
          (fun _ _ _ => False) ?own
          (fun _ _ _ _ _ hs _ _ => hs)
          ⟨⟨v, v1, by rw [List.append_nil]; exact r1⟩, ⟨hb0, hk0⟩, Kpt.refl _ _ _⟩
          (fun x => { tmps := #[.slice (some ad) l0.length c0, undef, .slice none 0 0, .int .i64 0, .pointer (some ⟨w.heap.size + 1, 0, none⟩), undef, .int .u8 l0[k], .int .u8 x, .slice (some ad) l0.length c0, .int .i64 (l0.length : Int), .bool false, .slice (some ad) l0.length c0, .int .i64 (l0.length : Int), .int .i64 (8 * (l0.length : Int)), .slice (some ⟨w.heap.size, 0, none⟩) 0 (8 * l0.length), .slice (some ad) l0.length c0, .int .i64 (l0.length : Int), .int .i64 (k : Int), .bool true, .pointer (some (ad.add k)), .int .u8 l0[k], .int .u8 l0[k], .int .i64 (wrap64 l0[k]), .func (.func 26) #[] #[.pointer (some ⟨wr.heap.size + 1, 0, none⟩), .pointer (some ⟨wr.heap.size, 0, none⟩)], .int .u8 x, u25, u26, u27, u28, u29, undef], defers := [] }) ?assign ?body ?done ?stop
        case bk1 => omega
        case bk2 => intro q hq; omega
        case own =>
          refine OwnFrom.and ?_ (OwnFrom.and (OwnFrom.and (ownFrom_below hwr (by omega)) (ownFrom_keepsFrom (by omega))) (Kpt.own (by omega) (by omega) (fun q hq => by omega) (fun q hq => by omega)))
          rintro pre X Y row ⟨v, hv, hR⟩ hg hr
          exact ⟨v, hv.kept hg (fun e' => by obtain ⟨o, ho, hc⟩ := (hr _ e'.symm).2; rw [show X.heap[w.heap.size + 1]? = _ from hv] at ho; cases ho; cases hc), R_own hR hg (fun r e' => (hr r e').2)⟩
        case assign =>
          intro l x W K hK
          gi_wp2
          exact hK
        case body =>
          rintro l pre x W ⟨⟨v, hv, hR⟩, ⟨hB, hF⟩, hK⟩ hlt8
          obtain ⟨ys, hys⟩ : ∃ ys, ys = acc ++ pre := ⟨_, rfl⟩
          obtain ⟨zs, hzs⟩ : ∃ zs, zs = ys ++ [x] := ⟨_, rfl⟩
          have hyl : ys.length < 140737488355328 := by rw [hys]; simp; omega
          rw [← hys] at hR
          have HY := Aside0.mk hys
          have HZ := Aside0.mk hzs
          clear hys hzs hcell
          obtain ⟨A, c, rfl⟩ := Kd.R_slice hR
          have HR := Aside0.mk hR
          have HB := Aside0.mk hB
          have HK := Aside0.mk hK
          have HF := Aside0.mk hF
          clear hR hB hK hF
          have hsz : wr.heap.size + 2 ≤ W.heap.size := by have := HK.out.below.size; omega
          have hc := hv.cell
          gi_wp2_with (gi_at_builtin; refine R_appendIn (Kd.int .u8) (w0 := wr) w.heap.size rfl (.tmp 25) (.tmp 27) 22 5 (.int .u8 0) 1 rfl Try.underlying22 info_u8 rfl (by decide) (by omega) (.slice A ys.length c) ys x [.int .u8 x] (fun q => ¬ q = wr.heap.size) (fun _ => False) rfl rfl rfl (fun _ h => h.elim) ?aF HR.out HB.out ?aS ?aL ?_; (case aF => exact fun q hq hs => by omega); (case aS => omega); (case aL => omega); intro v1 w1 ho hb hg hat; rw [← HZ.out] at ho; obtain ⟨A1, c1, rfl⟩ := Kd.R_slice ho; have hv1 := Boxed.beside hv (by decide) HR.out hg; have hc1 := hv1.cell; have hf1 := hv1.frozen; have n0_ := Aside0.mk ho; have n1_ := Aside0.mk hb; have n2_ := Aside0.mk hg; clear ho hb hg hat)
          have hW : ∀ q, q = wr.heap.size → q < W.heap.size := fun q hq => by omega
          have k1 : Kpt 0 (fun q => q = wr.heap.size) W w1 := (Kpt.refl 0 _ W).grown (by omega) hW n2_.out (fun q e => ⟨Nat.zero_le _, HR.out.1 q e⟩)
          have k2 := k1.grown (by omega) hW (grownBy_setCell' w1 (w.heap.size + 1) (.slice A1 zs.length c1)) (fun q e => by cases e; exact ⟨by omega, fun hs => by have := hv.lt; have := v1.lt; have := hv0.lt; omega⟩)
          have kf : KeepsOthers W (w1.setCell ⟨w.heap.size + 1, 0, none⟩ (.slice A1 zs.length c1)) := (R_keepsOthers HR.out n2_.out).trans (KeepsOthers.setCell _ _ _)
          refine ⟨kf.from _, k2, ⟨.slice A1 zs.length c1, hv1.set _, ?_⟩, ⟨n1_.out.setCell (p := ⟨w.heap.size + 1, 0, none⟩) (by simp) _, HF.out.trans (kf.from _)⟩, HK.out.trans k2⟩
          rw [← List.append_assoc, ← HY.out, ← HZ.out]
          exact Kd.R_set n0_.out hv1 (by decide) 0 (.slice A1 zs.length c1)
        case done =>
          rintro D ys W hD rfl ⟨⟨v, hv, hR⟩, ⟨hB, hF⟩, hK⟩ hKD
          have HR := Aside0.mk hR
          have HB2 := Aside0.mk hB
          have HM2 := Aside0.mk (Marks.cons (D := D) HM.out hF (by omega) (by omega) hKD)
          clear hR hB hF hK
          gi_wp2
          refine ⟨⟨k + 1, v, _, _, _, _, _, _, _, _, _, _, _, _, _, _, _, by simp only [Int.natCast_add, Int.cast_ofNat_Int]; rfl, by omega, hv, ⟨?_⟩, ⟨HB.out.trans HB2.out⟩, HM2⟩, by simp [intOf]; omega⟩
          have e : (l0.take (k + 1)).flatMap (fun c => bitsOf (wrap64 c) 8) = acc ++ bitsOf (wrap64 l0[k]) 8 := by
            rw [HACC.out, List.take_succ_eq_append_getElem hlt, List.flatMap_append]
            simp
          rw [e]
          exact Kd.R_mono HR.out (fun _ _ => trivial)
        case stop =>
          rintro D c pre W _ _ h _
          exact h.elim
      · obtain ⟨acc, hacc⟩ : ∃ acc, acc = (l0.take k).flatMap (fun c => bitsOf (wrap64 c) 8) := ⟨_, rfl⟩
        rw [← hacc] at HR
        have HACC := Aside0.mk hacc
        clear hacc
        obtain ⟨A, c, rfl⟩ := Kd.R_slice HR.out
        have hkl : l0.length ≤ k := by omega
        gi_wp2
        refine leaves_marks (B := w.heap.size) ds wr HM.out fun W' hW' => ⟨_, results_tmp2 rfl _ _ _, _, rfl, ?_, ?_⟩
        · have e : l0.flatMap (fun c => bitsOf (wrap64 c) 8) = acc := by rw [HACC.out, List.take_of_length_le hkl]
          rw [e]
          exact hW' (fun W => Kd.R (Kd.int .u8) 5 W w.heap.size (fun _ => True) (.slice A acc.length c) acc) (fun _ X Y row hs hg hr => R_own hs hg (fun r e' => (hr r e').2)) HR.out
        · exact hW' (fun W => Below w.heap.size w W) (ownFrom_below (Nat.le_refl _) (Nat.le_refl _)) HB.out

end Go.Proofs.Ytccnicigldjcdaa.H
