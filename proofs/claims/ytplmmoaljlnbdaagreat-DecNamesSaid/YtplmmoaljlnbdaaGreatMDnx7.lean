/- Gathered by a program (wip/merge.py): HLapNext, HLose, HPut. -/
import Derived.Deep.RegionWith
import Derived.BigQuiet
import Derived.Deep.QuietTactic
import Derived.IntWalk
import Derived.Sort.AtCall
import Derived.Deep.RegionLaw
import Derived.Test.YtplmmoaljlnbdaaGreatMDnx1
import Derived.Test.YtplmmoaljlnbdaaGreatMDnx3
import Derived.Test.YtplmmoaljlnbdaaGreatMDnx6

section
/- lap.Next: samples of a frame's lines. -/
namespace Go.Proofs.YtplmmoaljlnbdaaGreat.Hd
open Go.RowKit Go.Shelf Go.Proofs.YtplmmoaljlnbdaaGreatW.PrintWords Go.Proofs.YtplmmoaljlnbdaaGreatW.PrintMore
set_option linter.unusedVariables false
set_option linter.unusedSimpArgs false
attribute [local go_sem] Oper.semAt_some

/-- Kept in 16 bits. -/
def clip16 (n : Int) : Int := mn (mx n (-32768)) 32767
theorem clip_f (n : Int) : fix_Clip.f n 16 = some (clip16 n, 0) := by
  have e1 : wrap64 (shl .i64 1 (wrap64 (16 - 1)) - 1) = 32767 := by decide +kernel
  have e2 : wrap64 (wrap64 (-(wrap64 (shl .i64 1 (wrap64 (16 - 1)) - 1))) - 1) = -32768 := by decide +kernel
  unfold fix_Clip.f clip16
  rw [if_neg (by omega), if_neg (by omega), if_pos (by decide +kernel), e2, e1]
def sampleOf (s : Int) : Int := clip16 (roundOf s 4)
def lap_Next.f (k : Nat) (l : List Int) (s h seq shape : Int) (lines : List Int) : Option (List Int × Int × Int × List Int × Int) :=
  (lap_Check.f l s h).bind fun r => if r = 0 then (block_Synth.f k seq h shape lines).bind fun y => if y.2 = 0 then some (y.1.drop 256, seq, shape, (bothOf l y.1).map sampleOf, 0) else some ([], 0, 0, [], y.2) else some ([], 0, 0, [], r)

theorem infoLap : (Tryz.prog.info? 49).map (·.size) = some 3 := by kernel_rfl

set_option maxRecDepth 100000 in
set_option maxHeartbeats 2000000 in
theorem next_check (A0 : Option Addr) (c0 : Nat) (l0 : List Int) (a1 a2 a3 a4 : Int) (v5 : Value) (r : Int) (w : World) (hr0 : Kd.C (Kd.int .i64) w A0 l0.length l0) (hc0 : l0.length ≤ c0) (hk : lap_Check.f l0 a1 a2 = some r) (hr : r ≠ 0) :
    Calls Tryz.prog 16 #[.agg #[.slice A0 l0.length c0, .int .u8 a1, .int .u8 a2], .int .u8 a3, .int .u8 a4, v5] w fun e w' => e = .returned (.tuple #[.agg #[.slice none 0 0, .int .u8 0, .int .u8 0], .slice none 0 0, .int .i64 r]) ∧ Below w.heap.size w w' := by
  have hu := Tryz.underlying49
  have t1 : (r != 0) = true := by simpa using hr
  have HR0 := Aside0.mk hr0
  have HK := Aside0.mk hk
  clear hr hr0 hk
  go_enter Tryz.func16, Tryz.ntmps16
  go_wp2_with (go_at_call 28; go_must (refine (lap_Check.calls A0 c0 l0 a1 a2 r _ (Kd.C_alloc (Kd.C_alloc (Kd.C_alloc HR0.out _) _) _) hc0 HK.out).mono ?_; rintro e w1 ⟨rfl, hb⟩); have HB := Aside0.mk hb; clear hb)
  have z8 : (((w.alloc (.cells #[.slice A0 l0.length c0, .int .u8 a1, .int .u8 a2] 49)).alloc (.cells #[.slice none 0 0, .int .u8 0, .int .u8 0] 49)).alloc (.cells #[.slice none 0 0] 31)).heap[w.heap.size + 1]? = some (.cells #[.slice none 0 0, .int .u8 0, .int .u8 0] 49) := by
    have h := heap_alloc_new (w.alloc (.cells #[.slice A0 l0.length c0, .int .u8 a1, .int .u8 a2] 49)) (.cells #[.slice none 0 0, .int .u8 0, .int .u8 0] 49)
    rw [World.size_alloc] at h
    exact blk_alloc h _
  have z9 := Boxed.new ((w.alloc (.cells #[.slice A0 l0.length c0, .int .u8 a1, .int .u8 a2] 49)).alloc (.cells #[.slice none 0 0, .int .u8 0, .int .u8 0] 49)) 31 (.slice none 0 0)
  simp only [World.size_alloc] at z9
  refine bodyPost_ret (results_list2 (rs := [.cell 8 49, .cell 9 31, .tmp 10]) rfl (by simp) (.cell (w.heap.size + 1) _ _ _ _ rfl (blk_below z8 HB.out) hu rfl infoLap (.box ⟨w.heap.size + 1 + 1, 0, none⟩ (.slice none 0 0) _ rfl (Boxed.keepsC z9 (KeepsC.of_below HB.out)).cell Tryz.underlying31 rfl (.tmp .nil)))) rfl ⟨rfl, ?_⟩
  exact below_then ((((Below.refl _ _).alloc (Nat.le_refl _) _).alloc (by simp) _).alloc (by simp <;> omega) _) (by simp; omega) HB.out

/-- The same post, but that nothing panics. -/
def noPanic (Q : Exit → Act → World → Prop) : Exit → Act → World → Prop
  | .panic _, _, _ => False
  | e, a, w => Q e a w
theorem noPanic_to {Q : Exit → Act → World → Prop} : ∀ e a w, noPanic Q e a w → Q e a w := by
  intro e a w h
  cases e <;> first | exact h | exact h.elim
theorem noPanic_normal {Q : Exit → Act → World → Prop} {a : Act} {w : World} (h : Q .normal a w) : noPanic Q .normal a w := h
/-- What holds between two samples. -/
def LapI (w : World) (n8 n9 Ba Bb base1 base2 : Nat) (A0 A7 : Option Addr) (c0 c7 : Nat) (l0 ys : List Int) (k : Nat) (W : World) : Prop :=
  (∃ v, Boxed W n9 31 v ∧ Kd.R (Kd.int .i64) 3 W base2 (fun _ => True) v (((bothOf l0 ys).take k).map sampleOf)) ∧ W.heap[n8]? = some (Obj.cells #[.slice none 0 0, .int .u8 0, .int .u8 0] 49 (0, 0)) ∧
  Kd.R (Kd.int .i64) 3 W base1 (fun k => k < base2) (.slice A7 ys.length c7) ys ∧ Boxed W Ba 31 (.slice A0 l0.length c0) ∧ Boxed W Bb 31 (.slice A7 ys.length c7) ∧ Below w.heap.size w W
theorem LapI.keeps {w : World} {n8 n9 Ba Bb base1 base2 : Nat} {A0 A7 : Option Addr} {c0 c7 : Nat} {l0 ys : List Int} {k : Nat} {W W' : World} (h : LapI w n8 n9 Ba Bb base1 base2 A0 A7 c0 c7 l0 ys k W) (hk : KeepsC W W') (hb : Below w.heap.size w W') : LapI w n8 n9 Ba Bb base1 base2 A0 A7 c0 c7 l0 ys k W' := by
  obtain ⟨⟨v, h1, h2⟩, h3, h4, h5, h6, _⟩ := h
  exact ⟨⟨v, Boxed.keepsC h1 hk, R_keepsC h2 hk⟩, hk.same _ _ _ _ h3, R_keepsC h4 hk, Boxed.keepsC h5 hk, Boxed.keepsC h6 hk, hb⟩
theorem BothKp.trans {Ba Bb : Nat} {A B : Option Addr} {xs ys : List Int} {X Y Z : World} (h : BothKp Ba Bb A B xs ys X Y) (k : BothKp Ba Bb A B xs ys Y Z) : BothKp Ba Bb A B xs ys X Z :=
  ⟨fun i hi => (k.1 i hi).trans (h.1 i hi), fun c => k.2.1 (h.2.1 c), fun c => k.2.2 (h.2.2 c)⟩

set_option maxRecDepth 100000 in
set_option maxHeartbeats 4000000 in
theorem next_ok (k : Nat) (A0 : Option Addr) (c0 : Nat) (l0 : List Int) (a1 a2 a3 a4 : Int) (A5 : Option Addr) (c5 : Nat) (l5 : List Int) (ys : List Int) (w : World) (hr0 : Kd.C (Kd.int .i64) w A0 l0.length l0) (hc0 : l0.length ≤ c0) (hr5 : Kd.C (Kd.int .i64) w A5 l5.length l5) (hc5 : l5.length ≤ c5)
    (hk : lap_Check.f l0 a1 a2 = some 0) (hs : block_Synth.f k a3 a2 a4 l5 = some (ys, 0)) (hyl : ys.length = 512) (hl0 : l0.length = 256) :
    Calls Tryz.prog 16 #[.agg #[.slice A0 l0.length c0, .int .u8 a1, .int .u8 a2], .int .u8 a3, .int .u8 a4, .slice A5 l5.length c5] w fun e w' => ∃ v0_ v3_ : Value, e = .returned (.tuple #[.agg #[v0_, .int .u8 a3, .int .u8 a4], v3_, .int .i64 0]) ∧
      Kd.R (Kd.int .i64) 3 w' w.heap.size (fun _ => True) v0_ (ys.drop 256) ∧ Kd.R (Kd.int .i64) 3 w' w.heap.size (fun _ => True) v3_ ((bothOf l0 ys).map sampleOf) ∧ Below w.heap.size w w' := by
  have hu := Tryz.underlying49
  have HR0 := Aside0.mk hr0
  have HR5 := Aside0.mk hr5
  have HK := Aside0.mk hk
  have HS := Aside0.mk hs
  have HYL := Aside0.mk hyl
  have HL0 := Aside0.mk hl0
  have z8 : (((w.alloc (.cells #[.slice A0 l0.length c0, .int .u8 a1, .int .u8 a2] 49)).alloc (.cells #[.slice none 0 0, .int .u8 0, .int .u8 0] 49)).alloc (.cells #[.slice none 0 0] 31)).heap[w.heap.size + 1]? = some (.cells #[.slice none 0 0, .int .u8 0, .int .u8 0] 49) := by
    have h := heap_alloc_new (w.alloc (.cells #[.slice A0 l0.length c0, .int .u8 a1, .int .u8 a2] 49)) (.cells #[.slice none 0 0, .int .u8 0, .int .u8 0] 49)
    rw [World.size_alloc] at h
    exact blk_alloc h _
  have z4 : (((w.alloc (.cells #[.slice A0 l0.length c0, .int .u8 a1, .int .u8 a2] 49)).alloc (.cells #[.slice none 0 0, .int .u8 0, .int .u8 0] 49)).alloc (.cells #[.slice none 0 0] 31)).heap[w.heap.size]? = some (.cells #[.slice A0 l0.length c0, .int .u8 a1, .int .u8 a2] 49) := blk_alloc (blk_alloc (heap_alloc_new w _) _) _
  have z9 := Boxed.new ((w.alloc (.cells #[.slice A0 l0.length c0, .int .u8 a1, .int .u8 a2] 49)).alloc (.cells #[.slice none 0 0, .int .u8 0, .int .u8 0] 49)) 31 (.slice none 0 0)
  simp only [World.size_alloc] at z9
  have zb : Below w.heap.size w (((w.alloc (.cells #[.slice A0 l0.length c0, .int .u8 a1, .int .u8 a2] 49)).alloc (.cells #[.slice none 0 0, .int .u8 0, .int .u8 0] 49)).alloc (.cells #[.slice none 0 0] 31)) := (((Below.refl _ _).alloc (Nat.le_refl _) _).alloc (by simp) _).alloc (by simp <;> omega) _
  have Z8 := Aside0.mk z8
  have Z4 := Aside0.mk z4
  have Z9 := Aside0.mk z9
  have ZB := Aside0.mk zb
  clear hr0 hr5 hk hs hyl hl0 z8 z4 z9 zb
  refine callsIn_wide.1 (callsIn_of_wp_marks (n := 10) Tryz.func16 rfl trivial ?_)
  simp only [Tryz.ntmps16, List.size_toArray, List.length_cons, List.length_nil, Nat.reduceAdd, Nat.reduceSub, Array.replicate_succ, Array.replicate_zero, List.push_toArray, List.append_toArray, List.nil_append, List.cons_append]
  gi_wp2_with (first
    | (refine ⟨trivial, ?_⟩; gi_at_call 28; go_must (refine (callsIn_wide.2 (lap_Check.calls A0 c0 l0 a1 a2 0 _ (Kd.C_below HR0.out ZB.out) hc0 HK.out)).mono ?_; rintro e w1 ⟨rfl, hb⟩); have HB1 := Aside0.mk (below_then ZB.out ZB.out.size hb); have Y8 := Aside0.mk (blk_below Z8.out hb); have Y9 := Aside0.mk (Boxed.keepsC Z9.out (KeepsC.of_below hb)); have z4 := blk_below Z4.out hb; have y2 := blk_cell z4 2; have y0 := blk_cell z4 0; have hlt1 := hb.size; simp only [World.size_alloc] at hlt1; clear hb z4)
    | (refine ⟨trivial, ?_⟩; gi_at_call 34; go_must (refine (callsIn_wide.2 (block_Synth.calls k a3 a2 a4 A5 c5 l5 ys 0 _ (Kd.C_below HR5.out HB1.out) hc5 HS.out)).mono ?_; rintro e w2 ⟨v7, rfl, ho, hb⟩); obtain ⟨A7, c7, rfl⟩ := Kd.R_slice ho; have HO := Aside0.mk ho; have HB2 := Aside0.mk (below_then HB1.out HB1.out.size hb); have X8 := Aside0.mk (blk_below Y8.out hb); have X9 := Aside0.mk (Boxed.keepsC Y9.out (KeepsC.of_below hb)); have x0 := pw_cell_below hb y0; have hlt2 := hb.size; clear ho hb)
    | (refine ⟨trivial, ?_⟩; gi_at_call 35; go_must (refine (callsIn_wide.2 (both_calls _ _ _ ⟨_, _, _, rfl⟩ ⟨_, _, _, rfl⟩)).mono ?_; rintro e w3 ⟨rfl, rfl⟩)))
  have V8 := blk_alloc (blk_alloc X8.out (.cells #[.slice A0 l0.length c0] 31)) (.cells #[.slice A7 ys.length c7] 31)
  have V9 := (X9.out.alloc (.cells #[.slice A0 l0.length c0] 31)).alloc (.cells #[.slice A7 ys.length c7] 31)
  have VO := Kd.R_mono (Kd.R_alloc (Kd.R_alloc (Kd.R_mono (Kd.R_bound HO.out) (ok' := fun k => k < w2.heap.size) (fun k hk => hk.2.2.1)) (.cells #[.slice A0 l0.length c0] 31)) (.cells #[.slice A7 ys.length c7] 31)) (fun k hk => hk)
  have Va := (Boxed.new w2 31 (.slice A0 l0.length c0)).alloc (.cells #[.slice A7 ys.length c7] 31)
  have Vb := Boxed.new (w2.alloc (.cells #[.slice A0 l0.length c0] 31)) 31 (.slice A7 ys.length c7)
  rw [World.size_alloc] at Vb
  have VB := (HB2.out.alloc HB2.out.size (.cells #[.slice A0 l0.length c0] 31)).alloc (by have := HB2.out.size; simp; omega) (.cells #[.slice A7 ys.length c7] 31)
  have hW0s : ((w2.alloc (Obj.cells #[Value.slice A0 l0.length c0] 31)).alloc (Obj.cells #[Value.slice A7 ys.length c7] 31)).heap.size = w2.heap.size + 2 := by simp
  clear y0 y2 x0
  generalize ((w2.alloc (Obj.cells #[Value.slice A0 l0.length c0] 31)).alloc (Obj.cells #[Value.slice A7 ys.length c7] 31)) = W0 at V8 V9 VO Va Vb VB hW0s ⊢
  have hyl := HYL.out
  have hll := HL0.out
  have hbl : (bothOf l0 ys).length ≤ 512 := by simp [bothOf]; omega
  refine wpIn_rangeIter (n := 10) (β := Int) rfl (by omega) (gf := 62) (lb := #[.pointer (some ⟨w2.heap.size, 0, none⟩), .pointer (some ⟨w2.heap.size + 1, 0, none⟩)]) rfl trivial (enters_of Tryz.func62 (by kernel_rfl) rfl)
    (both_iter _ _ A0 A7 c0 c7 l0 ys W0 (by omega) (by omega) Va Vb (Kd.C_below HR0.out VB) (Kd.R_reads' VO).2.2) (Below.refl _ _) (fun A B h => KeepsOthers.of_grownBy (grown_of_below h none) (fun j o e => by cases e)) BothKp.trans
    (fun W l o o' hl ho hc _ => ⟨fun i hi => World.putObj_heap_other (by rcases hi with rfl | rfl <;> omega), fun c => C_keepsC 0 c (KeepsC.putObj o' ho hc), fun c => C_keepsC 0 c (KeepsC.putObj o' ho hc)⟩) (fun x args W h => by subst h; rfl)
    (LapI w (w.heap.size + 1) (w.heap.size + 1 + 1) w2.heap.size (w2.heap.size + 1) w1.heap.size w2.heap.size A0 A7 c0 c7 l0 ys) (fun _ _ => False)
    (fun s X Y row hs hg hr => hs.keeps (KeepsC.of_turn hg (fun r e => (hr r e).2)) ((ownFrom_below (β := Unit) (B := W0.heap.size) (Nat.le_refl _) (by omega)) () X Y row hs.2.2.2.2.2 hg hr)) (fun _ _ _ _ _ h _ _ => h)
    (fun k A B h hs => h.keeps (KeepsC.of_below hs) (below_then h.2.2.2.2.2 h.2.2.2.2.2.size hs)) (fun _ _ _ h _ => h)
    ⟨⟨_, V9, by simpa using Kd.R_nil _ _ _ _ _⟩, V8, VO, Va, Vb, VB⟩ ?round ?done ?stop
  case round =>
    intro l k args W hk hl hr hI hrep
    subst hrep
    obtain ⟨x, hx⟩ : ∃ x, (bothOf l0 ys)[k] = x := ⟨_, rfl⟩
    rw [hx]
    have htk : ((bothOf l0 ys).take (k + 1)).map sampleOf = ((bothOf l0 ys).take k).map sampleOf ++ [sampleOf x] := by rw [List.take_succ_eq_append_getElem hk, List.map_append, hx]; rfl
    have HTK := Aside0.mk htk
    clear hx htk
    gi_wp2
    refine ⟨KeepsFrom.refl _ _, ⟨fun _ _ => rfl, fun h => h, fun h => h⟩, fun r' => ?_⟩
    obtain ⟨rl, hrl⟩ := hr
    have hI2 := hI.keeps (KeepsC.putObj (.loop r') hrl rfl) (hI.2.2.2.2.2.trans (belowK_b (w := w) (Nat.le_refl _) W l _ _ (by omega) hrl rfl rfl))
    have hszW : W0.heap.size ≤ (W.putObj l (.loop r')).heap.size := by have := (Array.getElem?_eq_some_iff.1 hrl).1; simp; omega
    clear hI hrl
    generalize W.putObj l (.loop r') = W2 at hI2 hszW ⊢
    obtain ⟨⟨v, b9, hRp⟩, h8, hRy, ba, bb, hbl2⟩ := hI2
    obtain ⟨zs, hzs⟩ : ∃ zs, zs = ((bothOf l0 ys).take k).map sampleOf := ⟨_, rfl⟩
    have hzl : zs.length ≤ 512 := by rw [hzs]; simp; omega
    rw [← hzs] at hRp
    have HZS := Aside0.mk hzs
    obtain ⟨Ap, cp, rfl⟩ := Kd.R_slice hRp
    have hcr := fix_Round.calls 4 x 4 _ _ W2 (round_some x 4 (by omega) (by omega))
    have hcc := fun W => fix_Clip.calls (roundOf x 4) 16 _ _ W (clip_f (roundOf x 4))
    obtain ⟨s, hs2⟩ : ∃ s, s = clip16 (roundOf x 4) := ⟨_, rfl⟩
    rw [← hs2] at hcc
    have HS2 : Aside0 (sampleOf x = s) := ⟨hs2.symm⟩
    have B9 := Aside0.mk b9
    have RP := Aside0.mk hRp
    have H8 := Aside0.mk h8
    have RY := Aside0.mk hRy
    have BA := Aside0.mk ba
    have BB := Aside0.mk bb
    have HBW := Aside0.mk hbl2
    clear hzs hs2 b9 hRp h8 hRy ba bb hbl2
    gi_wp2_with (first
      | (refine ⟨trivial, ?_⟩; gi_at_call 36; go_must (refine (CallsIn.inRound l (callsIn_wide.2 hcr)).mono ?_; rintro e w3 ⟨rfl, ⟨nd, rfl⟩⟩))
      | (refine ⟨trivial, ?_⟩; gi_at_call 37; go_must (refine (CallsIn.inRound l (callsIn_wide.2 (hcc _))).mono ?_; rintro e w4 ⟨rfl, hb⟩); have hb4 : Below W2.heap.size W2 w4 := (pw_below_drewN (Below.refl _ _) nd).trans hb; have K4 := Aside0.mk (KeepsC.of_below hb4); have hb9 := Boxed.keepsC B9.out K4.out; have c9 := hb9.cell; have C9 := Aside0.mk hb9; have RP4 := Aside0.mk (R_keepsC RP.out K4.out); have HB4 := Aside0.mk hb4; have hs4 := hb4.size; clear hb hb4 hb9)
      | (gi_at_builtin; go_must (refine R_appendIn (Kd.int .i64) (w0 := w4) w2.heap.size rfl (.tmp 45) (.tmp 47) 31 3 (.int .i64 0) 8 rfl Tryz.underlying31 info3 rfl (by decide) (by omega) (.slice Ap zs.length cp) zs s [.int .i64 s] (fun _ => True) (fun _ => False) rfl rfl rfl (fun _ h => h.elim) ?aF RP4.out ?aB ?aS ?aL ?_; (case aF => exact fun _ _ => trivial); (case aB => exact Below.refl _ _); (case aS => omega); (case aL => omega)); intro v5 w5 ho hb hg hat; obtain ⟨A5', c5', rfl⟩ := Kd.R_slice ho; have hb95 := Boxed.beside C9.out (by decide) RP4.out hg; have c95 := hb95.cell; have f95 := hb95.frozen; have HO5 := Aside0.mk ho; have HG5 := Aside0.mk hg; have HB5 := Aside0.mk hb; have C95 := Aside0.mk hb95; clear ho hb hg hat hb95))
    have rowb : ∀ i, (Value.slice Ap zs.length cp).ownBlock = some i → w2.heap.size ≤ i := fun i e => Kd.R_base RP4.out i e
    have hB' : Below w.heap.size w (w5.setCell ⟨w.heap.size + 1 + 1, 0, none⟩ (.slice A5' (zs.length + 1) c5')) :=
      ((below_then HBW.out HBW.out.size HB4.out).grown HG5.out (by have := HBW.out.size; omega) (fun i e => by have := rowb i e; omega)).setCell (p := ⟨w.heap.size + 1 + 1, 0, none⟩) (by simp; omega) _
    have hA4 := Boxed.beside (Boxed.keepsC BA.out K4.out) (by decide) RP4.out HG5.out
    have hA' : Boxed (w5.setCell ⟨w.heap.size + 1 + 1, 0, none⟩ (.slice A5' (zs.length + 1) c5')) w2.heap.size 31 (.slice A0 l0.length c0) := blk_far hA4 (by show w2.heap.size ≠ w.heap.size + 1 + 1; omega) _
    have hBb4 := Boxed.beside (Boxed.keepsC BB.out K4.out) (by decide) RP4.out HG5.out
    have hBb' : Boxed (w5.setCell ⟨w.heap.size + 1 + 1, 0, none⟩ (.slice A5' (zs.length + 1) c5')) (w2.heap.size + 1) 31 (.slice A7 ys.length c7) := blk_far hBb4 (by show w2.heap.size + 1 ≠ w.heap.size + 1 + 1; omega) _
    have h84 := K4.out.same _ _ _ _ H8.out
    have h8' := blk_far (blk_grown h84 HG5.out (Kd.R_ne RP4.out h84 (by decide))) (p := ⟨w.heap.size + 1 + 1, 0, none⟩) (by show w.heap.size + 1 ≠ w.heap.size + 1 + 1; omega) (.slice A5' (zs.length + 1) c5')
    have hY' := R_farB (Kd.R_grown (R_keepsC RY.out K4.out) HG5.out (fun i hi e => by have := rowb i e.symm; omega)) (p := ⟨w.heap.size + 1 + 1, 0, none⟩) (by show w.heap.size + 1 + 1 < w1.heap.size; omega) (.slice A5' (zs.length + 1) c5')
    have hP' := R_farB HO5.out (p := ⟨w.heap.size + 1 + 1, 0, none⟩) (by show w.heap.size + 1 + 1 < w2.heap.size; omega) (.slice A5' (zs.length + 1) c5')
    refine ⟨(KeepsFrom.of_grownBy (grown_of_below HB4.out none) (fun j e => by cases e)).trans (((R_keepsOthers RP4.out HG5.out).from _).trans ((KeepsOthers.setCell _ _ _).from _)), ⟨fun i hi => ?_, fun _ => Kd.C_below HR0.out hB', fun _ => (Kd.R_reads' hY').2.2⟩, ⟨.slice A5' (zs.length + 1) c5', C95.out.set _, ?_⟩, h8', hY', hA', hBb', hB'⟩
    · rcases hi with rfl | rfl
      · exact hA'.trans BA.out.symm
      · exact hBb'.trans BB.out.symm
    · rw [HTK.out, ← HZS.out, HS2.out]
      have e1 : (zs ++ [s]).length = zs.length + 1 := by simp
      rw [e1] at hP'
      exact hP'
  case done =>
    intro D W hD hI hKD
    obtain ⟨⟨v, b9, hRp⟩, h8, hRy, ba, bb, hbl2⟩ := hI
    obtain ⟨zs, hzs⟩ : ∃ zs, zs = (bothOf l0 ys).map sampleOf := ⟨_, rfl⟩
    rw [List.take_length, ← hzs] at hRp
    have HZS := Aside0.mk hzs
    obtain ⟨Ap, cp, rfl⟩ := Kd.R_slice hRp
    have c9 := b9.cell
    have f9 := b9.frozen
    have B9 := Aside0.mk b9
    have RP := Aside0.mk hRp
    have H8 := Aside0.mk h8
    have RY := Aside0.mk hRy
    have HBW := Aside0.mk hbl2
    have hmx : Tryz.prog.follows .mixedOrders = true := by kernel_rfl
    obtain ⟨us, hus⟩ : ∃ us, us = ys.drop 256 := ⟨_, rfl⟩
    obtain ⟨i0, hi, hz0, hz1, hz2⟩ := info_parts (info3 : (Tryz.prog.info? 3).map (fun i => (i.zero, i.size, i.bytes)) = _)
    obtain ⟨A9, hcut, hcr, hcc⟩ := print_drop_of (P := Tryz.prog) (Value.int .i64) 0 31 3 .i64 Tryz.underlying31 hi hz1 A7 c7 ys 256 (by omega) (by omega) (Kd.R_reads' hRy).2.1
    have hul : us.length = 256 := by rw [hus, List.length_drop]; omega
    simp only [show (256 : Int).toNat = 256 from rfl] at hcut hcr hcc
    rw [← hus] at hcut hcr hcc
    have hCu : Kd.C (Kd.int .i64) W A9 us.length us := Kd.C_of_reads (d := 0) (hcr W (Kd.reads_of_C (d := 0) (Kd.R_reads' hRy).2.2))
    have HCU := Aside0.mk hCu
    have HUS := Aside0.mk hus
    have HUL := Aside0.mk hul
    have HKD := Aside0.mk hKD
    clear hzs b9 hRp h8 hRy ba bb hbl2 hyl hll hbl hCu hus hul hKD hcr
    have hcl := slices_Clone_int_int.calls A9 (c7 - 256) us us W.drew (Kd.C_drewN HCU.out 1) hcc (by unfold slices_Clone_int_int.f; rw [if_pos (by have := HUL.out; omega)])
    gi_wp2
    refine wpIn_mono (Q := noPanic _) ?_ noPanic_to
    gi_region_with_o (refine ⟨trivial, ?_⟩; gi_at_call 38; go_must (refine (callsIn_wide.2 hcl).mono ?_; rintro e w3 ⟨v3, rfl, ho, hb⟩; obtain ⟨A3, c3, rfl⟩ := Kd.R_slice ho; have hb : Below W.heap.size W w3 := (below_drew (Below.refl _ _)).trans hb; have K3 := KeepsC.of_below hb; have c93 := (Boxed.keepsC B9.out K3).cell; have f93 := (Boxed.keepsC B9.out K3).frozen; have z8 := K3.same _ _ _ _ H8.out; have e80 := blk_cell z8 0; have e81 := blk_cell z8 1; have e82 := blk_cell z8 2; have f80 := blk_frozen z8 0; have f81 := blk_frozen z8 1; have f82 := blk_frozen z8 2; have HO3 := Aside0.mk ho; have HB3 := Aside0.mk hb; have K3 := Aside0.mk K3; clear ho hb z8))
    all_goals
      refine noPanic_normal ?_
      gi_wp2
      have hW2 : w2.heap.size + 2 ≤ W.heap.size := by have h := (Array.getElem?_eq_some_iff.1 HKD.out).1; omega
      have hK2 : ((((w3.setCell ⟨w.heap.size + 1, 0, none⟩ (.slice A3 us.length c3)).setCell ⟨w.heap.size + 1, 1, none⟩ (.int .u8 a3)).setCell ⟨w.heap.size + 1, 2, none⟩ (.int .u8 a4)).setCell ⟨w.heap.size + 1 + 1, 0, none⟩ (.slice Ap zs.length cp)).heap[D]? = some (.deferred (some [])) :=
        (Below.heap_setCell _ ⟨w.heap.size + 1 + 1, 0, none⟩ _ D (by show D ≠ w.heap.size + 1 + 1; omega)).trans ((Below.heap_setCell _ ⟨w.heap.size + 1, 2, none⟩ _ D (by show D ≠ w.heap.size + 1; omega)).trans ((Below.heap_setCell _ ⟨w.heap.size + 1, 1, none⟩ _ D (by show D ≠ w.heap.size + 1; omega)).trans ((Below.heap_setCell _ ⟨w.heap.size + 1, 0, none⟩ _ D (by show D ≠ w.heap.size + 1; omega)).trans ((HB3.out.block D (Array.getElem?_eq_some_iff.1 HKD.out).1).trans HKD.out))))
      have g8 := (World.putObj_heap_other (o := .deferred none) (show w.heap.size + 1 ≠ D by omega)).trans (blk_far (blk_set (blk_set (blk_set (K3.out.same _ _ _ _ H8.out) 0 (.slice A3 us.length c3)) 1 (.int .u8 a3)) 2 (.int .u8 a4)) (p := ⟨w.heap.size + 1 + 1, 0, none⟩) (by show w.heap.size + 1 ≠ w.heap.size + 1 + 1; omega) (.slice Ap zs.length cp))
      have g9 := (boxed_putObj (D := D) (Boxed.set (.slice Ap zs.length cp) (blk_far (blk_far (blk_far (Boxed.keepsC B9.out K3.out) (p := ⟨w.heap.size + 1, 0, none⟩) (by show w.heap.size + 1 + 1 ≠ w.heap.size + 1; omega) (.slice A3 us.length c3)) (p := ⟨w.heap.size + 1, 1, none⟩) (by show w.heap.size + 1 + 1 ≠ w.heap.size + 1; omega) (.int .u8 a3)) (p := ⟨w.heap.size + 1, 2, none⟩) (by show w.heap.size + 1 + 1 ≠ w.heap.size + 1; omega) (.int .u8 a4))) (.deferred none) (show w.heap.size + 1 + 1 ≠ D by omega)).cell
      refine ⟨by simp, .inl ⟨_, _, rfl, run_takeDeferred hK2, ?_⟩⟩
      refine ⟨_, results_list2 (rs := [.cell 8 49, .cell 9 31, .tmp 10]) rfl (by simp) (.cell (w.heap.size + 1) _ _ _ _ rfl g8 hu rfl infoLap (.box ⟨w.heap.size + 1 + 1, 0, none⟩ (.slice Ap zs.length cp) _ rfl g9 Tryz.underlying31 rfl (.tmp .nil))), .slice A3 us.length c3, .slice Ap zs.length cp, rfl, ?_, ?_, ?_⟩
      · rw [← HUS.out]
        exact Kd.R_lower (R_putObj (R_farB (R_farB (R_farB (R_farB HO3.out (p := ⟨w.heap.size + 1, 0, none⟩) (by show w.heap.size + 1 < W.heap.size; omega) _) (p := ⟨w.heap.size + 1, 1, none⟩) (by show w.heap.size + 1 < W.heap.size; omega) _) (p := ⟨w.heap.size + 1, 2, none⟩) (by show w.heap.size + 1 < W.heap.size; omega) _) (p := ⟨w.heap.size + 1 + 1, 0, none⟩) (by show w.heap.size + 1 + 1 < W.heap.size; omega) _) _ hK2 rfl) (by show w.heap.size ≤ W.heap.size; omega)
      · rw [← HZS.out]
        exact Kd.R_lower (R_putObj (R_farB (R_farB (R_farB (R_farB (R_keepsC RP.out K3.out) (p := ⟨w.heap.size + 1, 0, none⟩) (by show w.heap.size + 1 < w2.heap.size; omega) _) (p := ⟨w.heap.size + 1, 1, none⟩) (by show w.heap.size + 1 < w2.heap.size; omega) _) (p := ⟨w.heap.size + 1, 2, none⟩) (by show w.heap.size + 1 < w2.heap.size; omega) _) (p := ⟨w.heap.size + 1 + 1, 0, none⟩) (by show w.heap.size + 1 + 1 < w2.heap.size; omega) _) _ hK2 rfl) (by omega)
      · exact (((((below_then HBW.out HBW.out.size HB3.out).setCell (p := ⟨w.heap.size + 1, 0, none⟩) (by simp) _).setCell (p := ⟨w.heap.size + 1, 1, none⟩) (by simp) _).setCell (p := ⟨w.heap.size + 1, 2, none⟩) (by simp) _).setCell (p := ⟨w.heap.size + 1 + 1, 0, none⟩) (by simp; omega) _).trans (belowK_b (w := w) (Nat.le_refl _) _ D _ _ (by omega) hK2 rfl rfl)
  case stop =>
    intro D c W hD h hKD
    exact h.elim

set_option maxRecDepth 100000 in
set_option maxHeartbeats 4000000 in
theorem next_err (k : Nat) (A0 : Option Addr) (c0 : Nat) (l0 : List Int) (a1 a2 a3 a4 : Int) (A5 : Option Addr) (c5 : Nat) (l5 : List Int) (ys : List Int) (r : Int) (w : World) (hr0 : Kd.C (Kd.int .i64) w A0 l0.length l0) (hc0 : l0.length ≤ c0) (hr5 : Kd.C (Kd.int .i64) w A5 l5.length l5) (hc5 : l5.length ≤ c5)
    (hk : lap_Check.f l0 a1 a2 = some 0) (hs : block_Synth.f k a3 a2 a4 l5 = some (ys, r)) (hr : r ≠ 0) :
    Calls Tryz.prog 16 #[.agg #[.slice A0 l0.length c0, .int .u8 a1, .int .u8 a2], .int .u8 a3, .int .u8 a4, .slice A5 l5.length c5] w fun e w' => e = .returned (.tuple #[.agg #[.slice none 0 0, .int .u8 0, .int .u8 0], .slice none 0 0, .int .i64 r]) ∧ Below w.heap.size w w' := by
  have hu := Tryz.underlying49
  have t1 : (r != 0) = true := by simpa using hr
  have HR0 := Aside0.mk hr0
  have HR5 := Aside0.mk hr5
  have HK := Aside0.mk hk
  have HS := Aside0.mk hs
  have z8 : (((w.alloc (.cells #[.slice A0 l0.length c0, .int .u8 a1, .int .u8 a2] 49)).alloc (.cells #[.slice none 0 0, .int .u8 0, .int .u8 0] 49)).alloc (.cells #[.slice none 0 0] 31)).heap[w.heap.size + 1]? = some (.cells #[.slice none 0 0, .int .u8 0, .int .u8 0] 49) := by
    have h := heap_alloc_new (w.alloc (.cells #[.slice A0 l0.length c0, .int .u8 a1, .int .u8 a2] 49)) (.cells #[.slice none 0 0, .int .u8 0, .int .u8 0] 49)
    rw [World.size_alloc] at h
    exact blk_alloc h _
  have z4 : (((w.alloc (.cells #[.slice A0 l0.length c0, .int .u8 a1, .int .u8 a2] 49)).alloc (.cells #[.slice none 0 0, .int .u8 0, .int .u8 0] 49)).alloc (.cells #[.slice none 0 0] 31)).heap[w.heap.size]? = some (.cells #[.slice A0 l0.length c0, .int .u8 a1, .int .u8 a2] 49) := blk_alloc (blk_alloc (heap_alloc_new w _) _) _
  have z9 := Boxed.new ((w.alloc (.cells #[.slice A0 l0.length c0, .int .u8 a1, .int .u8 a2] 49)).alloc (.cells #[.slice none 0 0, .int .u8 0, .int .u8 0] 49)) 31 (.slice none 0 0)
  simp only [World.size_alloc] at z9
  have zb : Below w.heap.size w (((w.alloc (.cells #[.slice A0 l0.length c0, .int .u8 a1, .int .u8 a2] 49)).alloc (.cells #[.slice none 0 0, .int .u8 0, .int .u8 0] 49)).alloc (.cells #[.slice none 0 0] 31)) := (((Below.refl _ _).alloc (Nat.le_refl _) _).alloc (by simp) _).alloc (by simp <;> omega) _
  have Z8 := Aside0.mk z8
  have Z4 := Aside0.mk z4
  have Z9 := Aside0.mk z9
  have ZB := Aside0.mk zb
  clear hr0 hr5 hk hs hr z8 z4 z9 zb
  go_enter Tryz.func16, Tryz.ntmps16
  go_wp2_with (first
    | (go_at_call 28; go_must (refine (lap_Check.calls A0 c0 l0 a1 a2 0 _ (Kd.C_below HR0.out ZB.out) hc0 HK.out).mono ?_; rintro e w1 ⟨rfl, hb⟩); have HB1 := Aside0.mk (below_then ZB.out ZB.out.size hb); have Y8 := Aside0.mk (blk_below Z8.out hb); have Y9 := Aside0.mk (Boxed.keepsC Z9.out (KeepsC.of_below hb)); have z4 := blk_below Z4.out hb; have y2 := blk_cell z4 2; clear hb z4)
    | (go_at_call 34; go_must (refine (block_Synth.calls k a3 a2 a4 A5 c5 l5 ys r _ (Kd.C_below HR5.out HB1.out) hc5 HS.out).mono ?_; rintro e w2 ⟨v7, rfl, ho, hb⟩); have HB2 := Aside0.mk (below_then HB1.out HB1.out.size hb); have x8 := blk_below Y8.out hb; have e80 := blk_cell x8 0; have e81 := blk_cell x8 1; have e82 := blk_cell x8 2; have f80 := blk_frozen x8 0; have f81 := blk_frozen x8 1; have f82 := blk_frozen x8 2; have X8 := Aside0.mk x8; have x9 := Boxed.keepsC Y9.out (KeepsC.of_below hb); have c9 := x9.cell; have f9 := x9.frozen; have X9 := Aside0.mk x9; clear ho hb x8 x9))
  have g8 := blk_far (blk_set (blk_set (blk_set X8.out 0 (.slice none 0 0)) 1 (.int .u8 0)) 2 (.int .u8 0)) (p := ⟨w.heap.size + 1 + 1, 0, none⟩) (by show w.heap.size + 1 ≠ w.heap.size + 1 + 1; omega) (.slice none 0 0)
  have g9 := (Boxed.set (.slice none 0 0) (blk_far (blk_far (blk_far X9.out (p := ⟨w.heap.size + 1, 0, none⟩) (by show w.heap.size + 1 + 1 ≠ w.heap.size + 1; omega) (.slice none 0 0)) (p := ⟨w.heap.size + 1, 1, none⟩) (by show w.heap.size + 1 + 1 ≠ w.heap.size + 1; omega) (.int .u8 0)) (p := ⟨w.heap.size + 1, 2, none⟩) (by show w.heap.size + 1 + 1 ≠ w.heap.size + 1; omega) (.int .u8 0))).cell
  refine bodyPost_ret (results_list2 (rs := [.cell 8 49, .cell 9 31, .tmp 10]) rfl (by simp) (.cell (w.heap.size + 1) _ _ _ _ rfl g8 hu rfl infoLap (.box ⟨w.heap.size + 1 + 1, 0, none⟩ (.slice none 0 0) _ rfl g9 Tryz.underlying31 rfl (.tmp .nil)))) rfl ⟨rfl, ?_⟩
  exact (((HB2.out.setCell (p := ⟨w.heap.size + 1, 0, none⟩) (by simp) _).setCell (p := ⟨w.heap.size + 1, 1, none⟩) (by simp) _).setCell (p := ⟨w.heap.size + 1, 2, none⟩) (by simp) _).setCell (p := ⟨w.heap.size + 1 + 1, 0, none⟩) (by simp; omega) _

theorem synth_len (k : Nat) (a b c : Int) (l ys : List Int) (h : block_Synth.f k a b c l = some (ys, 0)) : ys.length = 512 := by
  unfold block_Synth.f at h
  split at h
  · split at h
    · split at h
      · cases e : block_asked.f k a b c l 256 (-268435455) 268435455 with
        | none => rw [e] at h; cases h
        | some r =>
          rw [e] at h
          simp only [Option.bind_some] at h
          split at h
          · simp only [Option.some.injEq, Prod.mk.injEq] at h
            rw [← h.1]
            exact synthOf_length _ _ _ _
          · rename_i hr
            simp only [Option.some.injEq, Prod.mk.injEq] at h
            exact absurd h.2 hr
      · cases h
    · cases h
  · cases h
theorem check_len (l : List Int) (s h : Int) (hk : lap_Check.f l s h = some 0) : l.length = 256 := by
  unfold lap_Check.f at hk
  simp only [Option.some.injEq] at hk
  split at hk
  · cases hk
  · rename_i hn
    simp only [not_or] at hn
    have := hn.1
    omega
theorem lap_Next.calls (k : Nat) (A0 : Option Addr) (c0 : Nat) (l0 : List Int) (a1 a2 a3 a4 : Int) (A5 : Option Addr) (c5 : Nat) (l5 : List Int) (r1 : List Int) (r2 r3 : Int) (r4 : List Int) (r5 : Int) (w : World) (hr0 : Kd.C (Kd.int .i64) w A0 l0.length l0) (hc0 : l0.length ≤ c0) (hr5 : Kd.C (Kd.int .i64) w A5 l5.length l5) (hc5 : l5.length ≤ c5)
    (h : lap_Next.f k l0 a1 a2 a3 a4 l5 = some (r1, r2, r3, r4, r5)) :
    Calls Tryz.prog 16 #[.agg #[.slice A0 l0.length c0, .int .u8 a1, .int .u8 a2], .int .u8 a3, .int .u8 a4, .slice A5 l5.length c5] w fun e w' => ∃ v0_ v3_ : Value, e = .returned (.tuple #[.agg #[v0_, .int .u8 r2, .int .u8 r3], v3_, .int .i64 r5]) ∧
      Kd.R (Kd.int .i64) 3 w' w.heap.size (fun _ => True) v0_ r1 ∧ Kd.R (Kd.int .i64) 3 w' w.heap.size (fun _ => True) v3_ r4 ∧ Below w.heap.size w w' := by
  unfold lap_Next.f at h
  cases e : lap_Check.f l0 a1 a2 with
  | none => rw [e] at h; cases h
  | some r =>
    rw [e] at h
    simp only [Option.bind_some] at h
    split at h
    · rename_i hr
      subst hr
      cases e2 : block_Synth.f k a3 a2 a4 l5 with
      | none => rw [e2] at h; cases h
      | some y =>
        obtain ⟨ys, s⟩ := y
        rw [e2] at h
        simp only [Option.bind_some] at h
        split at h
        · rename_i hs
          subst hs
          simp only [Option.some.injEq, Prod.mk.injEq] at h
          obtain ⟨rfl, rfl, rfl, rfl, rfl⟩ := h
          exact next_ok k A0 c0 l0 a1 a2 _ _ A5 c5 l5 ys w hr0 hc0 hr5 hc5 e e2 (synth_len _ _ _ _ _ _ e2) (check_len _ _ _ e)
        · rename_i hs
          simp only [Option.some.injEq, Prod.mk.injEq] at h
          obtain ⟨rfl, rfl, rfl, rfl, rfl⟩ := h
          exact (next_err k A0 c0 l0 a1 a2 a3 a4 A5 c5 l5 ys _ w hr0 hc0 hr5 hc5 e e2 hs).mono fun e w' ⟨he, hb⟩ => ⟨_, _, he, Kd.R_nil _ _ _ _ _, Kd.R_nil _ _ _ _ _, hb⟩
    · rename_i hr
      simp only [Option.some.injEq, Prod.mk.injEq] at h
      obtain ⟨rfl, rfl, rfl, rfl, rfl⟩ := h
      exact (next_check A0 c0 l0 a1 a2 a3 a4 _ _ w hr0 hc0 e hr).mono fun e w' ⟨he, hb⟩ => ⟨_, _, he, Kd.R_nil _ _ _ _ _, Kd.R_nil _ _ _ _ _, hb⟩
theorem lap_Next.mono (l : List Int) (s h seq shape : Int) (lines : List Int) (k : Nat) : LeO (lap_Next.f k l s h seq shape lines) (lap_Next.f (k + 1) l s h seq shape lines) := by
  unfold lap_Next.f
  exact LeO.bind (LeO.refl _) fun _ => LeO.ite (LeO.bind (block_Synth.mono _ _ _ _ k) fun _ => LeO.refl _) (LeO.refl _)
end Go.Proofs.YtplmmoaljlnbdaaGreat.Hd
end

section
/- lose.Lines: lines of a lost frame, where it is asked rightly. -/
namespace Go.Proofs.YtplmmoaljlnbdaaGreat.Hd
open Go.RowKit Go.Shelf Go.Proofs.YtplmmoaljlnbdaaGreatW.PrintWords Go.Proofs.YtplmmoaljlnbdaaGreatW.PrintMore
set_option linter.unusedVariables false
set_option linter.unusedSimpArgs false

theorem lostFar_calls (x : Int) (w : World) : Calls Tryz.prog 133 #[.int .i64 x] w fun e w' => e = .returned (.bool (farLine x)) ∧ Below w.heap.size w w' := by
  unfold farLine
  by_cases h : x < -268435455
  · go_enter Tryz.func133, Tryz.ntmps133
    go_wp2
    go_ret
    exact ⟨by simp [h], Below.refl _ _⟩
  · go_enter Tryz.func133, Tryz.ntmps133
    go_wp2
    go_ret
    exact ⟨congrArg (fun b => Ending.returned (Value.bool b)) (by simp; omega), Below.refl _ _⟩

theorem tdiv_neg (s d : Int) (hd : d = 2 ∨ d = 3) (h : s.tmod d < 0) : s.tdiv d - 1 = s / d := by
  have h1 := Int.tmod_add_mul_tdiv s d
  have h5 := Int.lt_tmod_of_pos s (show 0 < d by omega)
  rcases hd with rfl | rfl <;> omega
theorem tdiv_pos (s d : Int) (hd : d = 2 ∨ d = 3) (h : 0 ≤ s.tmod d) : s.tdiv d = s / d := by
  have h1 := Int.tmod_add_mul_tdiv s d
  have h5 := Int.tmod_lt_of_pos s (show 0 < d by omega)
  rcases hd with rfl | rfl <;> omega
/-- Of two lines, one ahead and one behind: t of m + 1 parts on. -/
def lostTwo (x y m t : Int) : Int := (x * (m + 1 - t) + y * t) / (m + 1)
set_option maxRecDepth 100000 in
set_option maxHeartbeats 1000000 in
theorem lost2_calls (x y m t : Int) (n : Nat) (b4 b7 b6 b5 : Nat) (A B : Addr) (la ca lb cb : Nat) (w : World) (hm : m = 1 ∧ t = 1 ∨ m = 2 ∧ t = 1 ∨ m = 2 ∧ t = 2) (hx0 : -268435455 ≤ x) (hx1 : x ≤ 268435455) (hy0 : -268435455 ≤ y) (hy1 : y ≤ 268435455)
    (hna : n < la) (hnb : n < lb) (hla : la ≤ 1048576) (hlb : lb ≤ 1048576)
    (h4 : w.cell? ⟨b4, 0, none⟩ = some (.slice (some A) la ca)) (h7 : w.cell? ⟨b7, 0, none⟩ = some (.int .i64 m)) (h6 : w.cell? ⟨b6, 0, none⟩ = some (.int .i64 t)) (h5 : w.cell? ⟨b5, 0, none⟩ = some (.slice (some B) lb cb))
    (hcx : w.cell? (A.add n) = some (.int .i64 x)) (hcy : w.cell? (B.add n) = some (.int .i64 y)) :
    Calls Tryz.prog 134 #[.int .i64 (n : Int), .pointer (some ⟨b4, 0, none⟩), .pointer (some ⟨b7, 0, none⟩), .pointer (some ⟨b6, 0, none⟩), .pointer (some ⟨b5, 0, none⟩)] w fun e w' => e = .returned (.int .i64 (lostTwo x y m t)) ∧ Below w.heap.size w w' := by
  unfold lostTwo
  have hn0 : (0 : Int) ≤ (n : Int) := by omega
  have hn1 : (n : Int) < (la : Int) := by omega
  have hn2 : (n : Int) < (lb : Int) := by omega
  rcases hm with ⟨rfl, rfl⟩ | ⟨rfl, rfl⟩ | ⟨rfl, rfl⟩
  all_goals
    simp only [Int.reduceAdd, Int.reduceSub, Int.mul_one]
    go_enter Tryz.func134, Tryz.ntmps134
    go_wp2
    go_quiet (fail)
    go_wp2
    · rename_i h
      go_ret
      exact ⟨congrArg (fun z => Ending.returned (Value.int .i64 z)) (by first | (have := tdiv_neg _ 2 (.inl rfl) h; unfold wrap64; omega) | (have := tdiv_neg _ 3 (.inr rfl) h; unfold wrap64; omega)), pw_below_drewN (Below.refl _ _) _⟩
    · rename_i h
      go_ret
      exact ⟨congrArg (fun z => Ending.returned (Value.int .i64 z)) (by first | (have := tdiv_pos _ 2 (.inl rfl) h; omega) | (have := tdiv_pos _ 3 (.inr rfl) h; omega)), pw_below_drewN (Below.refl _ _) _⟩

theorem lost4_calls (x : Int) (t n : Nat) (b4 b6 : Nat) (A : Addr) (la ca : Nat) (w : World) (ht : t ≤ 8) (hna : n < la) (hla : la ≤ 1048576)
    (h4 : w.cell? ⟨b4, 0, none⟩ = some (.slice (some A) la ca)) (h6 : w.cell? ⟨b6, 0, none⟩ = some (.int .i64 (t : Int))) (hcx : w.cell? (A.add n) = some (.int .i64 x)) :
    Calls Tryz.prog 136 #[.int .i64 (n : Int), .pointer (some ⟨b4, 0, none⟩), .pointer (some ⟨b6, 0, none⟩)] w fun e w' => e = .returned (.int .i64 (x / 2 ^ t)) ∧ Below w.heap.size w w' := by
  have hn0 : (0 : Int) ≤ (n : Int) := by omega
  have hn1 : (n : Int) < (la : Int) := by omega
  go_enter Tryz.func136, Tryz.ntmps136
  go_wp2
  go_quiet (fail)
  go_wp2
  go_ret
  exact ⟨rfl, pw_below_drewN (Below.refl _ _) _⟩
theorem lost3_calls (x : Int) (w : World) : Calls Tryz.prog 135 #[.int .i64 x] w fun e w' => e = .returned (.int .i64 0) ∧ Below w.heap.size w w' := by
  go_enter Tryz.func135, Tryz.ntmps135
  go_wp2
  go_ret
  exact ⟨rfl, Below.refl _ _⟩

/-- A lost frame's line. -/
def lostAt (b a : List Int) (at_ many : Int) (n : Nat) : Int :=
  if many ≤ 2 ∧ a.length ≠ 0 then lostTwo (b.getD n 0) (a.getD n 0) many at_ else if 8 < at_ then 0 else b.getD n 0 / 2 ^ at_.toNat
def lose_Lines.f (b a : List Int) (at_ many : Int) : Option (List Int × Int) :=
  if 1 ≤ at_ ∧ at_ ≤ many ∧ many ≤ 65536 ∧ b.length = 256 ∧ (a.length = 256 ∨ a.length = 0) ∧ b.any farLine = false ∧ a.any farLine = false then some ((List.range 256).map (lostAt b a at_ many), 0) else none
theorem any_bound {l : List Int} (h : l.any farLine = false) (n : Nat) (hn : n < l.length) : -268435455 ≤ l.getD n 0 ∧ l.getD n 0 ≤ 268435455 := by
  have h1 : l.getD n 0 = l[n] := by simp [hn]
  rw [List.any_eq_false] at h
  have := h l[n] (List.getElem_mem hn)
  unfold farLine at this
  simp at this
  rw [h1]
  omega

set_option maxRecDepth 100000 in
set_option maxHeartbeats 4000000 in
theorem lose_Lines.calls (A0 : Option Addr) (c0 : Nat) (l0 : List Int) (A1 : Option Addr) (c1 : Nat) (l1 : List Int) (a2 a3 : Int) (r1 : List Int) (r2 : Int) (w : World) (hr0 : Kd.C (Kd.int .i64) w A0 l0.length l0) (hc0 : l0.length ≤ c0) (hr1 : Kd.C (Kd.int .i64) w A1 l1.length l1) (hc1 : l1.length ≤ c1)
    (h : lose_Lines.f l0 l1 a2 a3 = some (r1, r2)) :
    Calls Tryz.prog 79 #[.slice A0 l0.length c0, .slice A1 l1.length c1, .int .i64 a2, .int .i64 a3] w fun e w' => ∃ v0_ : Value, e = .returned (.tuple #[v0_, .int .i64 r2]) ∧ Kd.R (Kd.int .i64) 3 w' w.heap.size (fun _ => True) v0_ r1 ∧ Below w.heap.size w w' := by
  unfold lose_Lines.f at h
  split at h
  · rename_i hv
    simp only [Option.some.injEq, Prod.mk.injEq] at h
    obtain ⟨hr, rfl⟩ := h
    have HRES := Aside0.mk hr
    clear hr
    obtain ⟨g1, g2, g3, g4, g5, g6, g7⟩ := hv
    obtain ⟨t, rfl⟩ := Int.eq_ofNat_of_zero_le (show 0 ≤ a2 by omega)
    obtain ⟨i0, hi, hz0, hz1, hz2⟩ := info_parts (info3 : (Tryz.prog.info? 3).map (fun i => (i.zero, i.size, i.bytes)) = _)
    have hmk := fun W => run_make (P := Tryz.prog) W 31 3 i0 (.int .i64 0) Tryz.underlying31 hi hz0 .i64 .i64 256 256 (by omega) (by omega) (by rw [hz2]; omega) (by omega)
    have zb : Below w.heap.size w ((((w.alloc (.cells #[.slice A0 l0.length c0] 31)).alloc (.cells #[.slice A1 l1.length c1] 31)).alloc (.cells #[.int .i64 (t : Int)] 3)).alloc (.cells #[.int .i64 a3] 3)) := ((((Below.refl _ _).alloc (Nat.le_refl _) _).alloc (by simp) _).alloc (by simp <;> omega) _).alloc (by simp <;> omega) _
    have b4 := (((Boxed.new w 31 (.slice A0 l0.length c0)).alloc (.cells #[.slice A1 l1.length c1] 31)).alloc (.cells #[.int .i64 (t : Int)] 3)).alloc (.cells #[.int .i64 a3] 3)
    have b5 := ((Boxed.new (w.alloc (.cells #[.slice A0 l0.length c0] 31)) 31 (.slice A1 l1.length c1)).alloc (.cells #[.int .i64 (t : Int)] 3)).alloc (.cells #[.int .i64 a3] 3)
    have b6 := (Boxed.new ((w.alloc (.cells #[.slice A0 l0.length c0] 31)).alloc (.cells #[.slice A1 l1.length c1] 31)) 3 (.int .i64 (t : Int))).alloc (.cells #[.int .i64 a3] 3)
    have b7 := Boxed.new (((w.alloc (.cells #[.slice A0 l0.length c0] 31)).alloc (.cells #[.slice A1 l1.length c1] 31)).alloc (.cells #[.int .i64 (t : Int)] 3)) 3 (.int .i64 a3)
    simp only [World.size_alloc] at b5 b6 b7
    have hf0 := fun W hC => containsFunc_calls 133 #[] (enters_of Tryz.func133 (by kernel_rfl) rfl) farLine A0 c0 l0 W hC (by omega) (fun W x _ _ => lostFar_calls x W)
    have hf1 := fun W hC => containsFunc_calls 133 #[] (enters_of Tryz.func133 (by kernel_rfl) rfl) farLine A1 c1 l1 W hC (by omega) (fun W x _ _ => lostFar_calls x W)
    rw [g6] at hf0
    rw [g7] at hf1
    have p1 : (1 : Int) ≤ (t : Int) := g1
    have p2 : (t : Int) ≤ a3 := g2
    have p3 : a3 ≤ 65536 := g3
    have p4 : ((l0.length : Int) != 256) = false := by simp; omega
    have HR0 := Aside0.mk hr0
    have HR1 := Aside0.mk hr1
    have HZB := Aside0.mk zb
    have B4 := Aside0.mk b4
    have B5 := Aside0.mk b5
    have B6 := Aside0.mk b6
    have B7 := Aside0.mk b7
    have G4 := Aside0.mk g4
    have G5 := Aside0.mk g5
    have G6 := Aside0.mk g6
    have G7 := Aside0.mk g7
    clear hr0 hr1 zb b4 b5 b6 b7 g1 g2 g3 g4 g6 g7
    by_cases hw2 : a3 ≤ 2 ∧ l1.length = 256
    · obtain ⟨p8, g9⟩ := hw2
      have p5 : ((l1.length : Int) != 256) = false := by simp; omega
      have p7 : decide (0 < (l1.length : Int)) = true := by simp; omega
      have p9 : decide (0 < l1.length) = true := by simp; omega
      have G9 := Aside0.mk g9
      clear g5 g9
      go_enter Tryz.func79, Tryz.ntmps79
      go_wp2_with (first
        | (go_at_call_has 48 (Value.slice A0 l0.length c0); go_must (refine (hf0 _ (Kd.C_below HR0.out HZB.out)).mono ?_; rintro e w1 ⟨rfl, hb⟩); have K1 := Aside0.mk (KeepsC.of_below hb); have HB1 := Aside0.mk (below_then HZB.out HZB.out.size hb); have d5 := (Boxed.keepsC B5.out K1.out).cell; clear hb hf0)
        | (go_at_call 48; go_must (refine (hf1 _ (Kd.C_below HR1.out HB1.out)).mono ?_; rintro e w2 ⟨rfl, hb⟩); have K2 := Aside0.mk (K1.out.trans (KeepsC.of_below hb)); have HB2 := Aside0.mk (below_then HB1.out HB1.out.size hb); have e4 := (Boxed.keepsC B4.out K2.out).cell; have e5 := (Boxed.keepsC B5.out K2.out).cell; have e6 := (Boxed.keepsC B6.out K2.out).cell; have e7 := (Boxed.keepsC B7.out K2.out).cell; clear hb))
      have HE4 := Aside0.mk e4
      have HE5 := Aside0.mk e5
      have HE6 := Aside0.mk e6
      have HE7 := Aside0.mk e7
      have hwl : w.heap.size + 4 ≤ w2.heap.size := by have := K2.out.size; simp only [World.size_alloc] at this; omega
      clear e4 e5 e6 e7 d5 hmk
      go_loopw [65] (fun i wr => ∃ (k : Nat) (ys : List Int), i = .int .i64 (k : Int) ∧ k ≤ 256 ∧ Aside0 (ys.length = 256 ∧ ∀ j, j < k → ys[j]? = some (lostAt l0 l1 t a3 j)) ∧ Aside0 (Kd.R (Kd.int .i64) 3 wr w2.heap.size (fun _ => True) (.slice (some ⟨w2.heap.size, 0, none⟩) 256 256) ys) ∧ Aside0 (Below w2.heap.size w2 wr))
        (fun i _ => 256 - (intOf i).toNat)
      case atStart => exact ⟨0, List.replicate 256 0, rfl, by omega, ⟨by simp, fun j hj => absurd hj (Nat.not_lt_zero _)⟩, ⟨R_made w2 w2.heap.size 3 .i64 256 (Nat.le_refl _) (by omega)⟩, ⟨(Below.refl _ _).alloc (Nat.le_refl _) _⟩⟩
      case round =>
        obtain ⟨k, ys, rfl, hk, HY, HO, HW⟩ := hrel
        by_cases hlt : k < 256
        · have hcell := (by
            obtain ⟨ad, hA, hc⟩ := C_at (Kd.C_below HR0.out (below_then HB2.out HB2.out.size HW.out)) k (by have := G4.out; omega)
            obtain ⟨bd, hBb, hc2⟩ := C_at (Kd.C_below HR1.out (below_then HB2.out HB2.out.size HW.out)) k (by have := G9.out; omega)
            have h4 := (HW.out.cell (p := ⟨w.heap.size, 0, none⟩) (by show w.heap.size < _; omega)).trans HE4.out
            rw [hA] at h4
            have h5 := (HW.out.cell (p := ⟨w.heap.size + 1, 0, none⟩) (by show w.heap.size + 1 < _; omega)).trans HE5.out
            rw [hBb] at h5
            have h6 := (HW.out.cell (p := ⟨w.heap.size + 1 + 1, 0, none⟩) (by show w.heap.size + 1 + 1 < _; omega)).trans HE6.out
            have h7 := (HW.out.cell (p := ⟨w.heap.size + 1 + 1 + 1, 0, none⟩) (by show w.heap.size + 1 + 1 + 1 < _; omega)).trans HE7.out
            have q0 := any_bound G6.out k (by have := G4.out; omega)
            have q1 := any_bound G7.out k (by have := G9.out; omega)
            exact lost2_calls (l0.getD k 0) (l1.getD k 0) a3 t k w.heap.size (w.heap.size + 1 + 1 + 1) (w.heap.size + 1 + 1) (w.heap.size + 1) ad bd l0.length c0 l1.length c1 wr (by omega) q0.1 q0.2 q1.1 q1.2 (by have := G4.out; omega) (by have := G9.out; omega) (by have := G4.out; omega) (by have := G9.out; omega) h4 h7 h6 h5 hc hc2 : Calls Tryz.prog 134 #[.int .i64 (k : Int), .pointer (some ⟨w.heap.size, 0, none⟩), .pointer (some ⟨w.heap.size + 1 + 1 + 1, 0, none⟩), .pointer (some ⟨w.heap.size + 1 + 1, 0, none⟩), .pointer (some ⟨w.heap.size + 1, 0, none⟩)] wr _)
          go_wp2_with (go_at_call 134; go_must (refine hcell.mono ?_; rintro e w4 ⟨rfl, hb⟩); have HW4 := Aside0.mk (below_then HW.out HW.out.size hb); have HO4 := Aside0.mk (Kd.R_below HO.out hb); clear hb hcell; obtain ⟨hst, hfr⟩ := R_cellN HO4.out HY.out.1 k hlt)
          go_roundw
          case rel =>
            refine ⟨k + 1, ys.set k (lostTwo (l0.getD k 0) (l1.getD k 0) a3 t), by simp, by omega, ⟨by simp [HY.out.1], fun j hj => ?_⟩, ⟨R_putN HO4.out HY.out.1 k _⟩, ⟨HW4.out.setCell (p := ⟨w2.heap.size, k, none⟩) (Nat.le_refl _) _⟩⟩
            by_cases hjk : j = k
            · subst hjk
              rw [List.getElem?_set_self (by rw [HY.out.1]; omega)]
              exact congrArg some (by unfold lostAt; rw [if_pos ⟨p8, by have := G9.out; omega⟩])
            · rw [List.getElem?_set_ne (by omega)]
              exact HY.out.2 j (by omega)
          case measure => simp [intOf]; omega
        · obtain rfl : k = 256 := by omega
          go_wp2
          go_ret2
          refine ⟨_, rfl, ?_, below_then HB2.out HB2.out.size HW.out⟩
          have e : r1 = ys := by
            rw [← HRES.out]
            refine List.ext_getElem? fun j => ?_
            by_cases hj : j < 256
            · rw [HY.out.2 j hj]; simp only [List.getElem?_map, List.getElem?_range hj]; rfl
            · rw [List.getElem?_eq_none (by rw [List.length_map, List.length_range]; omega), List.getElem?_eq_none (by rw [HY.out.1]; omega)]
          rw [e]
          exact Kd.R_lower HO.out (by omega)
    · have HN : Aside0 (¬ (a3 ≤ 2 ∧ l1.length ≠ 0)) := ⟨fun h => hw2 ⟨h.1, by rcases g5 with g | g; exact g; exact absurd g h.2⟩⟩
      rcases g5 with g5 | g5
      · have p5 : ((l1.length : Int) != 256) = false := by simp; omega
        have q8 : (2 : Int) < a3 := by have := HN.out; omega
        clear g5 hw2
        by_cases h8 : (8 : Int) < (t : Int)
        · skip
          go_enter Tryz.func79, Tryz.ntmps79
          go_wp2_with (first
            | (go_at_call_has 48 (Value.slice A0 l0.length c0); go_must (refine (hf0 _ (Kd.C_below HR0.out HZB.out)).mono ?_; rintro e w1 ⟨rfl, hb⟩); have K1 := Aside0.mk (KeepsC.of_below hb); have HB1 := Aside0.mk (below_then HZB.out HZB.out.size hb); have d5 := (Boxed.keepsC B5.out K1.out).cell; clear hb hf0)
            | (go_at_call 48; go_must (refine (hf1 _ (Kd.C_below HR1.out HB1.out)).mono ?_; rintro e w2 ⟨rfl, hb⟩); have K2 := Aside0.mk (K1.out.trans (KeepsC.of_below hb)); have HB2 := Aside0.mk (below_then HB1.out HB1.out.size hb); have e4 := (Boxed.keepsC B4.out K2.out).cell; have e5 := (Boxed.keepsC B5.out K2.out).cell; have e6 := (Boxed.keepsC B6.out K2.out).cell; have e7 := (Boxed.keepsC B7.out K2.out).cell; clear hb))
          have HE4 := Aside0.mk e4
          have HE5 := Aside0.mk e5
          have HE6 := Aside0.mk e6
          have HE7 := Aside0.mk e7
          have hwl : w.heap.size + 4 ≤ w2.heap.size := by have := K2.out.size; simp only [World.size_alloc] at this; omega
          clear e4 e5 e6 e7 d5 hmk
          go_loopw [65] (fun i wr => ∃ (k : Nat) (ys : List Int), i = .int .i64 (k : Int) ∧ k ≤ 256 ∧ Aside0 (ys.length = 256 ∧ ∀ j, j < k → ys[j]? = some (lostAt l0 l1 t a3 j)) ∧ Aside0 (Kd.R (Kd.int .i64) 3 wr w2.heap.size (fun _ => True) (.slice (some ⟨w2.heap.size, 0, none⟩) 256 256) ys) ∧ Aside0 (Below w2.heap.size w2 wr))
            (fun i _ => 256 - (intOf i).toNat)
          case atStart => exact ⟨0, List.replicate 256 0, rfl, by omega, ⟨by simp, fun j hj => absurd hj (Nat.not_lt_zero _)⟩, ⟨R_made w2 w2.heap.size 3 .i64 256 (Nat.le_refl _) (by omega)⟩, ⟨(Below.refl _ _).alloc (Nat.le_refl _) _⟩⟩
          case round =>
            obtain ⟨k, ys, rfl, hk, HY, HO, HW⟩ := hrel
            by_cases hlt : k < 256
            · have hcell := lost3_calls (k : Int) wr
              go_wp2_with (go_at_call 135; go_must (refine hcell.mono ?_; rintro e w4 ⟨rfl, hb⟩); have HW4 := Aside0.mk (below_then HW.out HW.out.size hb); have HO4 := Aside0.mk (Kd.R_below HO.out hb); clear hb hcell; obtain ⟨hst, hfr⟩ := R_cellN HO4.out HY.out.1 k hlt)
              go_roundw
              case rel =>
                refine ⟨k + 1, ys.set k (0), by simp, by omega, ⟨by simp [HY.out.1], fun j hj => ?_⟩, ⟨R_putN HO4.out HY.out.1 k _⟩, ⟨HW4.out.setCell (p := ⟨w2.heap.size, k, none⟩) (Nat.le_refl _) _⟩⟩
                by_cases hjk : j = k
                · subst hjk
                  rw [List.getElem?_set_self (by rw [HY.out.1]; omega)]
                  exact congrArg some (by unfold lostAt; rw [if_neg (by have := HN.out; omega), if_pos h8])
                · rw [List.getElem?_set_ne (by omega)]
                  exact HY.out.2 j (by omega)
              case measure => simp [intOf]; omega
            · obtain rfl : k = 256 := by omega
              go_wp2
              go_ret2
              refine ⟨_, rfl, ?_, below_then HB2.out HB2.out.size HW.out⟩
              have e : r1 = ys := by
                rw [← HRES.out]
                refine List.ext_getElem? fun j => ?_
                by_cases hj : j < 256
                · rw [HY.out.2 j hj]; simp only [List.getElem?_map, List.getElem?_range hj]; rfl
                · rw [List.getElem?_eq_none (by rw [List.length_map, List.length_range]; omega), List.getElem?_eq_none (by rw [HY.out.1]; omega)]
              rw [e]
              exact Kd.R_lower HO.out (by omega)
        · skip
          go_enter Tryz.func79, Tryz.ntmps79
          go_wp2_with (first
            | (go_at_call_has 48 (Value.slice A0 l0.length c0); go_must (refine (hf0 _ (Kd.C_below HR0.out HZB.out)).mono ?_; rintro e w1 ⟨rfl, hb⟩); have K1 := Aside0.mk (KeepsC.of_below hb); have HB1 := Aside0.mk (below_then HZB.out HZB.out.size hb); have d5 := (Boxed.keepsC B5.out K1.out).cell; clear hb hf0)
            | (go_at_call 48; go_must (refine (hf1 _ (Kd.C_below HR1.out HB1.out)).mono ?_; rintro e w2 ⟨rfl, hb⟩); have K2 := Aside0.mk (K1.out.trans (KeepsC.of_below hb)); have HB2 := Aside0.mk (below_then HB1.out HB1.out.size hb); have e4 := (Boxed.keepsC B4.out K2.out).cell; have e5 := (Boxed.keepsC B5.out K2.out).cell; have e6 := (Boxed.keepsC B6.out K2.out).cell; have e7 := (Boxed.keepsC B7.out K2.out).cell; clear hb))
          have HE4 := Aside0.mk e4
          have HE5 := Aside0.mk e5
          have HE6 := Aside0.mk e6
          have HE7 := Aside0.mk e7
          have hwl : w.heap.size + 4 ≤ w2.heap.size := by have := K2.out.size; simp only [World.size_alloc] at this; omega
          clear e4 e5 e6 e7 d5 hmk
          go_loopw [65] (fun i wr => ∃ (k : Nat) (ys : List Int), i = .int .i64 (k : Int) ∧ k ≤ 256 ∧ Aside0 (ys.length = 256 ∧ ∀ j, j < k → ys[j]? = some (lostAt l0 l1 t a3 j)) ∧ Aside0 (Kd.R (Kd.int .i64) 3 wr w2.heap.size (fun _ => True) (.slice (some ⟨w2.heap.size, 0, none⟩) 256 256) ys) ∧ Aside0 (Below w2.heap.size w2 wr))
            (fun i _ => 256 - (intOf i).toNat)
          case atStart => exact ⟨0, List.replicate 256 0, rfl, by omega, ⟨by simp, fun j hj => absurd hj (Nat.not_lt_zero _)⟩, ⟨R_made w2 w2.heap.size 3 .i64 256 (Nat.le_refl _) (by omega)⟩, ⟨(Below.refl _ _).alloc (Nat.le_refl _) _⟩⟩
          case round =>
            obtain ⟨k, ys, rfl, hk, HY, HO, HW⟩ := hrel
            by_cases hlt : k < 256
            · have hcell := (by
                obtain ⟨ad, hA, hc⟩ := C_at (Kd.C_below HR0.out (below_then HB2.out HB2.out.size HW.out)) k (by have := G4.out; omega)
                have h4 := (HW.out.cell (p := ⟨w.heap.size, 0, none⟩) (by show w.heap.size < _; omega)).trans HE4.out
                rw [hA] at h4
                have h6 := (HW.out.cell (p := ⟨w.heap.size + 1 + 1, 0, none⟩) (by show w.heap.size + 1 + 1 < _; omega)).trans HE6.out
                exact lost4_calls (l0.getD k 0) t k w.heap.size (w.heap.size + 1 + 1) ad l0.length c0 wr (by omega) (by have := G4.out; omega) (by have := G4.out; omega) h4 h6 hc : Calls Tryz.prog 136 #[.int .i64 (k : Int), .pointer (some ⟨w.heap.size, 0, none⟩), .pointer (some ⟨w.heap.size + 1 + 1, 0, none⟩)] wr _)
              go_wp2_with (go_at_call 136; go_must (refine hcell.mono ?_; rintro e w4 ⟨rfl, hb⟩); have HW4 := Aside0.mk (below_then HW.out HW.out.size hb); have HO4 := Aside0.mk (Kd.R_below HO.out hb); clear hb hcell; obtain ⟨hst, hfr⟩ := R_cellN HO4.out HY.out.1 k hlt)
              go_roundw
              case rel =>
                refine ⟨k + 1, ys.set k (l0.getD k 0 / 2 ^ t), by simp, by omega, ⟨by simp [HY.out.1], fun j hj => ?_⟩, ⟨R_putN HO4.out HY.out.1 k _⟩, ⟨HW4.out.setCell (p := ⟨w2.heap.size, k, none⟩) (Nat.le_refl _) _⟩⟩
                by_cases hjk : j = k
                · subst hjk
                  rw [List.getElem?_set_self (by rw [HY.out.1]; omega)]
                  exact congrArg some (by unfold lostAt; rw [if_neg (by have := HN.out; omega), if_neg (by omega)]; rfl)
                · rw [List.getElem?_set_ne (by omega)]
                  exact HY.out.2 j (by omega)
              case measure => simp [intOf]; omega
            · obtain rfl : k = 256 := by omega
              go_wp2
              go_ret2
              refine ⟨_, rfl, ?_, below_then HB2.out HB2.out.size HW.out⟩
              have e : r1 = ys := by
                rw [← HRES.out]
                refine List.ext_getElem? fun j => ?_
                by_cases hj : j < 256
                · rw [HY.out.2 j hj]; simp only [List.getElem?_map, List.getElem?_range hj]; rfl
                · rw [List.getElem?_eq_none (by rw [List.length_map, List.length_range]; omega), List.getElem?_eq_none (by rw [HY.out.1]; omega)]
              rw [e]
              exact Kd.R_lower HO.out (by omega)
      · have p5 : ((l1.length : Int) != 256) = true := by rw [g5]; rfl
        have p6 : ((l1.length : Int) != 0) = false := by rw [g5]; rfl
        have p7 : decide (0 < (l1.length : Int)) = false := by rw [g5]; rfl
        have p9 : decide (0 < l1.length) = false := by rw [g5]; rfl
        clear g5 hw2
        by_cases h8 : (8 : Int) < (t : Int)
        · skip
          go_enter Tryz.func79, Tryz.ntmps79
          go_wp2_with (first
            | (go_at_call_has 48 (Value.slice A0 l0.length c0); go_must (refine (hf0 _ (Kd.C_below HR0.out HZB.out)).mono ?_; rintro e w1 ⟨rfl, hb⟩); have K1 := Aside0.mk (KeepsC.of_below hb); have HB1 := Aside0.mk (below_then HZB.out HZB.out.size hb); have d5 := (Boxed.keepsC B5.out K1.out).cell; clear hb hf0)
            | (go_at_call 48; go_must (refine (hf1 _ (Kd.C_below HR1.out HB1.out)).mono ?_; rintro e w2 ⟨rfl, hb⟩); have K2 := Aside0.mk (K1.out.trans (KeepsC.of_below hb)); have HB2 := Aside0.mk (below_then HB1.out HB1.out.size hb); have e4 := (Boxed.keepsC B4.out K2.out).cell; have e5 := (Boxed.keepsC B5.out K2.out).cell; have e6 := (Boxed.keepsC B6.out K2.out).cell; have e7 := (Boxed.keepsC B7.out K2.out).cell; clear hb))
          have HE4 := Aside0.mk e4
          have HE5 := Aside0.mk e5
          have HE6 := Aside0.mk e6
          have HE7 := Aside0.mk e7
          have hwl : w.heap.size + 4 ≤ w2.heap.size := by have := K2.out.size; simp only [World.size_alloc] at this; omega
          clear e4 e5 e6 e7 d5 hmk
          go_loopw [65] (fun i wr => ∃ (k : Nat) (ys : List Int), i = .int .i64 (k : Int) ∧ k ≤ 256 ∧ Aside0 (ys.length = 256 ∧ ∀ j, j < k → ys[j]? = some (lostAt l0 l1 t a3 j)) ∧ Aside0 (Kd.R (Kd.int .i64) 3 wr w2.heap.size (fun _ => True) (.slice (some ⟨w2.heap.size, 0, none⟩) 256 256) ys) ∧ Aside0 (Below w2.heap.size w2 wr))
            (fun i _ => 256 - (intOf i).toNat)
          case atStart => exact ⟨0, List.replicate 256 0, rfl, by omega, ⟨by simp, fun j hj => absurd hj (Nat.not_lt_zero _)⟩, ⟨R_made w2 w2.heap.size 3 .i64 256 (Nat.le_refl _) (by omega)⟩, ⟨(Below.refl _ _).alloc (Nat.le_refl _) _⟩⟩
          case round =>
            obtain ⟨k, ys, rfl, hk, HY, HO, HW⟩ := hrel
            by_cases hlt : k < 256
            · have hcell := lost3_calls (k : Int) wr
              go_wp2_with (go_at_call 135; go_must (refine hcell.mono ?_; rintro e w4 ⟨rfl, hb⟩); have HW4 := Aside0.mk (below_then HW.out HW.out.size hb); have HO4 := Aside0.mk (Kd.R_below HO.out hb); clear hb hcell; obtain ⟨hst, hfr⟩ := R_cellN HO4.out HY.out.1 k hlt)
              go_roundw
              case rel =>
                refine ⟨k + 1, ys.set k (0), by simp, by omega, ⟨by simp [HY.out.1], fun j hj => ?_⟩, ⟨R_putN HO4.out HY.out.1 k _⟩, ⟨HW4.out.setCell (p := ⟨w2.heap.size, k, none⟩) (Nat.le_refl _) _⟩⟩
                by_cases hjk : j = k
                · subst hjk
                  rw [List.getElem?_set_self (by rw [HY.out.1]; omega)]
                  exact congrArg some (by unfold lostAt; rw [if_neg (by have := HN.out; omega), if_pos h8])
                · rw [List.getElem?_set_ne (by omega)]
                  exact HY.out.2 j (by omega)
              case measure => simp [intOf]; omega
            · obtain rfl : k = 256 := by omega
              go_wp2
              go_ret2
              refine ⟨_, rfl, ?_, below_then HB2.out HB2.out.size HW.out⟩
              have e : r1 = ys := by
                rw [← HRES.out]
                refine List.ext_getElem? fun j => ?_
                by_cases hj : j < 256
                · rw [HY.out.2 j hj]; simp only [List.getElem?_map, List.getElem?_range hj]; rfl
                · rw [List.getElem?_eq_none (by rw [List.length_map, List.length_range]; omega), List.getElem?_eq_none (by rw [HY.out.1]; omega)]
              rw [e]
              exact Kd.R_lower HO.out (by omega)
        · rcases (show a3 ≤ 2 ∨ 2 < a3 by omega) with h9 | h9
          all_goals
            go_enter Tryz.func79, Tryz.ntmps79
            go_wp2_with (first
              | (go_at_call_has 48 (Value.slice A0 l0.length c0); go_must (refine (hf0 _ (Kd.C_below HR0.out HZB.out)).mono ?_; rintro e w1 ⟨rfl, hb⟩); have K1 := Aside0.mk (KeepsC.of_below hb); have HB1 := Aside0.mk (below_then HZB.out HZB.out.size hb); have d5 := (Boxed.keepsC B5.out K1.out).cell; clear hb hf0)
              | (go_at_call 48; go_must (refine (hf1 _ (Kd.C_below HR1.out HB1.out)).mono ?_; rintro e w2 ⟨rfl, hb⟩); have K2 := Aside0.mk (K1.out.trans (KeepsC.of_below hb)); have HB2 := Aside0.mk (below_then HB1.out HB1.out.size hb); have e4 := (Boxed.keepsC B4.out K2.out).cell; have e5 := (Boxed.keepsC B5.out K2.out).cell; have e6 := (Boxed.keepsC B6.out K2.out).cell; have e7 := (Boxed.keepsC B7.out K2.out).cell; clear hb))
            have HE4 := Aside0.mk e4
            have HE5 := Aside0.mk e5
            have HE6 := Aside0.mk e6
            have HE7 := Aside0.mk e7
            have hwl : w.heap.size + 4 ≤ w2.heap.size := by have := K2.out.size; simp only [World.size_alloc] at this; omega
            clear e4 e5 e6 e7 d5 hmk
            go_loopw [65] (fun i wr => ∃ (k : Nat) (ys : List Int), i = .int .i64 (k : Int) ∧ k ≤ 256 ∧ Aside0 (ys.length = 256 ∧ ∀ j, j < k → ys[j]? = some (lostAt l0 l1 t a3 j)) ∧ Aside0 (Kd.R (Kd.int .i64) 3 wr w2.heap.size (fun _ => True) (.slice (some ⟨w2.heap.size, 0, none⟩) 256 256) ys) ∧ Aside0 (Below w2.heap.size w2 wr))
              (fun i _ => 256 - (intOf i).toNat)
            case atStart => exact ⟨0, List.replicate 256 0, rfl, by omega, ⟨by simp, fun j hj => absurd hj (Nat.not_lt_zero _)⟩, ⟨R_made w2 w2.heap.size 3 .i64 256 (Nat.le_refl _) (by omega)⟩, ⟨(Below.refl _ _).alloc (Nat.le_refl _) _⟩⟩
            case round =>
              obtain ⟨k, ys, rfl, hk, HY, HO, HW⟩ := hrel
              by_cases hlt : k < 256
              · have hcell := (by
                  obtain ⟨ad, hA, hc⟩ := C_at (Kd.C_below HR0.out (below_then HB2.out HB2.out.size HW.out)) k (by have := G4.out; omega)
                  have h4 := (HW.out.cell (p := ⟨w.heap.size, 0, none⟩) (by show w.heap.size < _; omega)).trans HE4.out
                  rw [hA] at h4
                  have h6 := (HW.out.cell (p := ⟨w.heap.size + 1 + 1, 0, none⟩) (by show w.heap.size + 1 + 1 < _; omega)).trans HE6.out
                  exact lost4_calls (l0.getD k 0) t k w.heap.size (w.heap.size + 1 + 1) ad l0.length c0 wr (by omega) (by have := G4.out; omega) (by have := G4.out; omega) h4 h6 hc : Calls Tryz.prog 136 #[.int .i64 (k : Int), .pointer (some ⟨w.heap.size, 0, none⟩), .pointer (some ⟨w.heap.size + 1 + 1, 0, none⟩)] wr _)
                go_wp2_with (go_at_call 136; go_must (refine hcell.mono ?_; rintro e w4 ⟨rfl, hb⟩); have HW4 := Aside0.mk (below_then HW.out HW.out.size hb); have HO4 := Aside0.mk (Kd.R_below HO.out hb); clear hb hcell; obtain ⟨hst, hfr⟩ := R_cellN HO4.out HY.out.1 k hlt)
                go_roundw
                case rel =>
                  refine ⟨k + 1, ys.set k (l0.getD k 0 / 2 ^ t), by simp, by omega, ⟨by simp [HY.out.1], fun j hj => ?_⟩, ⟨R_putN HO4.out HY.out.1 k _⟩, ⟨HW4.out.setCell (p := ⟨w2.heap.size, k, none⟩) (Nat.le_refl _) _⟩⟩
                  by_cases hjk : j = k
                  · subst hjk
                    rw [List.getElem?_set_self (by rw [HY.out.1]; omega)]
                    exact congrArg some (by unfold lostAt; rw [if_neg (by have := HN.out; omega), if_neg (by omega)]; rfl)
                  · rw [List.getElem?_set_ne (by omega)]
                    exact HY.out.2 j (by omega)
                case measure => simp [intOf]; omega
              · obtain rfl : k = 256 := by omega
                go_wp2
                go_ret2
                refine ⟨_, rfl, ?_, below_then HB2.out HB2.out.size HW.out⟩
                have e : r1 = ys := by
                  rw [← HRES.out]
                  refine List.ext_getElem? fun j => ?_
                  by_cases hj : j < 256
                  · rw [HY.out.2 j hj]; simp only [List.getElem?_map, List.getElem?_range hj]; rfl
                  · rw [List.getElem?_eq_none (by rw [List.length_map, List.length_range]; omega), List.getElem?_eq_none (by rw [HY.out.1]; omega)]
                rw [e]
                exact Kd.R_lower HO.out (by omega)
  · cases h
end Go.Proofs.YtplmmoaljlnbdaaGreat.Hd
end

section
/- dec: a player's put, where it has one channel. -/
namespace Go.Proofs.YtplmmoaljlnbdaaGreat.Hd
open Go.RowKit Go.Shelf Go.Proofs.YtplmmoaljlnbdaaGreatW.PrintWords Go.Proofs.YtplmmoaljlnbdaaGreatW.PrintMore
set_option linter.unusedVariables false
set_option linter.unusedSimpArgs false

set_option maxRecDepth 100000 in
set_option maxHeartbeats 2000000 in
theorem put_calls (g gp base cp c0 : Nat) (a b c d e f v : Value) (xs ys : List Int) (A : Option Addr) (W : World) (hbase : base ≤ W.heap.size) (hl : xs.length + ys.length ≤ 1048576)
    (hP : W.heap[g]? = some (.cells #[a, b, c, d, e, f, .slice (some ⟨gp, 0, none⟩) 1 cp] 99 (0, 0))) (hB : Boxed W gp 31 v) (hR : Kd.R (Kd.int .i64) 3 W base (fun _ => True) v xs) (hC : Kd.C (Kd.int .i64) W A ys.length ys) :
    Calls Tryz.prog 81 #[.pointer (some ⟨g, 0, none⟩), .int .i64 0, .slice A ys.length c0] W fun e' W' => (∃ u, e' = .returned u) ∧
      ∃ v' w1, Kd.R (Kd.int .i64) 3 w1 base (fun _ => True) v' (xs ++ ys) ∧ W.grownBy w1 v.ownBlock ∧ (v'.ownBlock = v.ownBlock ∨ ∃ b, v'.ownBlock = some b ∧ W.heap.size ≤ b) ∧ W' = w1.setCell ⟨gp, 0, none⟩ v' := by
  obtain ⟨A0, k0, rfl⟩ := Kd.R_slice hR
  have e6 := blk_cell hP 6
  have hc := hB.cell
  have HB := Aside0.mk hB
  have HR := Aside0.mk hR
  have HC := Aside0.mk hC
  have HP := Aside0.mk hP
  clear hB hR hC hP
  go_enter Tryz.func81, Tryz.ntmps81
  go_wp2
  go_region_law (refine Kd.R_append_rows_step (Kd.int .i64) (w0 := W.drew) base (by rfl) (.tmp 17) (.tmp 18) 31 3 (.int .i64 0) 8 (by rfl) Tryz.underlying31 info3 rfl (by decide) (by omega) (.slice A0 xs.length k0) xs ys A ys.length c0 (fun _ => True) (fun _ => False) (by rfl) (by rfl) (Kd.R_drewN HR.out 1) (Kd.C_drewN HC.out 1) (fun _ _ h => h) (fun _ h => h.elim) (fun _ _ => trivial) (Below.refl _ _) (by simpa using hbase) (by omega) ?_; intro v1 w1 ho hb hg hat; obtain ⟨A1, k1, rfl⟩ := Kd.R_slice ho; have hg : W.grownBy w1 (Value.slice A0 xs.length k0).ownBlock := ⟨hg.os, hg.tape, hg.output, hg.size, hg.block⟩; have hb1 := Boxed.beside HB.out (by decide) HR.out hg; have e61 := blk_cell (blk_grown HP.out hg (Kd.R_ne HR.out HP.out (by decide))) 6; have c1 := hb1.cell; have f1 := hb1.frozen; have HO := Aside0.mk ho; have HG := Aside0.mk hg; have HAT := Aside0.mk hat; clear ho hb hg hat hb1)
  all_goals
    go_wp2
    refine bodyPost_end (results_none rfl _ _ _) rfl ?_
    exact ⟨⟨_, rfl⟩, _, _, HO.out, HG.out, HAT.out, by first | rfl | simp⟩

theorem made1 : madeCells #[Value.slice none 0 0] 1 = #[Value.slice none 0 0] := by first | rfl | decide | kernel_rfl
set_option maxRecDepth 100000 in
set_option maxHeartbeats 2000000 in
theorem sides_calls (g ns cs : Nat) (at_ : Int) (a c d f vp : Value) (As : Option Addr) (W : World) (hat : at_ < 0 ∨ (ns : Int) ≤ at_)
    (hP : W.heap[g]? = some (.cells #[a, .int .i64 1, c, d, .slice As ns cs, f, vp] 99 (0, 0))) :
    Calls Tryz.prog 78 #[.pointer (some ⟨g, 0, none⟩), .int .i64 at_] W fun e' W' => ∃ b, e' = .returned (.slice (some ⟨b, 0, none⟩) 1 1) ∧ W.heap.size ≤ b ∧ Boxed W' b 31 (.slice none 0 0) ∧ Below W.heap.size W W' := by
  obtain ⟨i0, hi, hz0, hz1, hz2⟩ := info_parts infoSlice
  have hmk := fun W => run_make (P := Tryz.prog) W 27 31 i0 (.slice none 0 0) Tryz.underlying27 hi hz0 .i64 .i64 1 1 (by omega) (by omega) (by rw [hz2]; omega) (by omega)
  have e1 := blk_cell hP 1
  have e4 := blk_cell (blk_alloc hP (.cells (madeCells #[.slice none 0 0] 1) 31)) 4
  have hb : Boxed (W.alloc (.cells (madeCells #[.slice none 0 0] 1) 31)) W.heap.size 31 (.slice none 0 0) := by rw [made1]; exact Boxed.new W _ _
  have HB := Aside0.mk hb
  clear hb hP
  go_enter Tryz.func78, Tryz.ntmps78
  rcases hat with h | h
  · go_wp2
    go_ret
    exact ⟨_, rfl, Nat.le_refl _, HB.out, (Below.refl _ _).alloc (Nat.le_refl _) _⟩
  · have h0 : 0 ≤ at_ := by omega
    go_wp2
    go_ret
    exact ⟨_, rfl, Nat.le_refl _, HB.out, (Below.refl _ _).alloc (Nat.le_refl _) _⟩
end Go.Proofs.YtplmmoaljlnbdaaGreat.Hd
end
