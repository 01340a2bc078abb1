/- Small laws for proofs by hand over the printed words: what an iterator asks its rounds to keep; rows of one's own inside a fenced walk. -/
import Derived.RangeFuncNested
import Derived.RangeFuncBound
import Derived.RangeFuncCalls
import Derived.RangeFuncLeaves
import Derived.Shelf.Abstract
import Derived.WalkKit
import Derived.OwnWalkIn
import Derived.TacticsInMore
import Derived.LoopNIn
import Derived.LoopIn
import Derived.WalkSpells
import Derived.Maps.AppendAt
import Derived.Lib.Hide
import Derived.Test.YtpeacnljdkejmaaGreatWWords
import Derived.Test.YtpeacnljdkejmaaGreatWMore
namespace Go.Proofs.YtpeacnljdkejmaaGreat.H
open Go.RowKit Go.Shelf Go.Proofs.YtpeacnljdkejmaaGreatW.PrintWords Go.Proofs.YtpeacnljdkejmaaGreatW.PrintMore
set_option linter.unusedVariables false
set_option linter.unusedSimpArgs false

/-- What a round keeps for an iterator: all below n₀, and the blocks of S. -/
structure Kpt (n₀ : Nat) (S : Nat → Prop) (W W' : World) : Prop where
  below : Below n₀ W W'
  at_ : ∀ k, S k → W'.heap[k]? = W.heap[k]?
theorem Kpt.refl (n₀ : Nat) (S : Nat → Prop) (W : World) : Kpt n₀ S W W := ⟨Below.refl _ _, fun _ _ => rfl⟩
theorem Kpt.trans {n₀ : Nat} {S : Nat → Prop} {A B C : World} (h : Kpt n₀ S A B) (k : Kpt n₀ S B C) : Kpt n₀ S A C := ⟨h.below.trans k.below, fun i hi => (k.at_ i hi).trans (h.at_ i hi)⟩
theorem Kpt.book {n₀ : Nat} {S : Nat → Prop} {w : World} (hn : n₀ ≤ w.heap.size) (hS : ∀ k, S k → k < w.heap.size) (W : World) (l : Nat) (o o' : Obj) (hl : w.heap.size ≤ l) (h : W.heap[l]? = some o) (hc : o.isCells = false) (hw : o.isWalk = false) : Kpt n₀ S W (W.putObj l o') :=
  ⟨belowK_b hn W l o o' hl h hc hw, fun k hk => World.putObj_heap_other (fun e => by have := hS k hk; omega)⟩
theorem Kpt.alloc {n₀ : Nat} {S : Nat → Prop} {w W : World} (h : Kpt n₀ S w W) (hn : n₀ ≤ w.heap.size) (hS : ∀ k, S k → k < w.heap.size) (o : Obj) : Kpt n₀ S w (W.alloc o) :=
  ⟨h.below.alloc (Nat.le_trans hn h.below.size) o, fun k hk => (Below.heap_alloc W o k (Nat.lt_of_lt_of_le (hS k hk) h.below.size)).trans (h.at_ k hk)⟩
theorem Kpt.drew {n₀ : Nat} {S : Nat → Prop} {w W : World} (h : Kpt n₀ S w W) : Kpt n₀ S w W.drew := ⟨h.below.drew, h.at_⟩
theorem Kpt.drewN {n₀ : Nat} {S : Nat → Prop} {w W : World} (h : Kpt n₀ S w W) (m : Nat) : Kpt n₀ S w (W.drewN m) := ⟨pw_below_drewN h.below m, h.at_⟩
/-- A step that turns one block (or none): it is none of those. -/
theorem Kpt.grown {n₀ : Nat} {S : Nat → Prop} {w W W' : World} {row : Option Nat} (h : Kpt n₀ S w W) (hn : n₀ ≤ w.heap.size) (hS : ∀ k, S k → k < w.heap.size) (hg : W.grownBy W' row) (hr : ∀ k, row = some k → n₀ ≤ k ∧ ¬ S k) : Kpt n₀ S w W' :=
  ⟨h.below.grown hg (Nat.le_trans hn h.below.size) (fun k e => (hr k e).1), fun k hk => (hg.block k (Nat.lt_of_lt_of_le (hS k hk) h.below.size) (fun e => (hr k e.symm).2 hk)).trans (h.at_ k hk)⟩
/-- A call from W on that turns nothing that lay. -/
theorem Kpt.step {n₀ : Nat} {S : Nat → Prop} {w W W' : World} (h : Kpt n₀ S w W) (hn : n₀ ≤ w.heap.size) (hS : ∀ k, S k → k < w.heap.size) (hb : Below W.heap.size W W') : Kpt n₀ S w W' :=
  ⟨below_then h.below (Nat.le_trans hn h.below.size) hb, fun k hk => (hb.block k (Nat.lt_of_lt_of_le (hS k hk) h.below.size)).trans (h.at_ k hk)⟩
theorem Kpt.cell {n₀ : Nat} {S : Nat → Prop} {W W' : World} (h : Kpt n₀ S W W') {p : Addr} (hp : p.block < n₀ ∨ S p.block) : W'.cell? p = W.cell? p := by
  rcases hp with hp | hp
  · exact h.below.cell hp
  · exact World.cell?_of_block (h.at_ _ hp)
/-- It abides the turn of a new block that is no cells. -/
theorem Kpt.own {β : Type} {n₀ B : Nat} {S : Nat → Prop} {w : World} (hn : n₀ ≤ w.heap.size) (hB : n₀ ≤ B) (hS : ∀ k, S k → k < w.heap.size) (hSB : ∀ k, S k → k < B) : OwnFrom B (fun (_ : β) W => Kpt n₀ S w W) :=
  fun _ X Y row hs hg hr => hs.grown hn hS hg (fun k e => ⟨Nat.le_trans hB (hr k e).1, fun hk => by have h1 := (hr k e).1; have h2 := hSB k hk; omega⟩)

section
variable {α : Type} {d : Kd α} {e base : Nat} {ok : Nat → Prop} {W W' : World} {v : Value} {xs : List α}
/-- A row of one's own abides the turn of a block that is no cells. -/
theorem R_own (h : d.R e W base ok v xs) {row : Option Nat} (hg : W.grownBy W' row) (hr : ∀ r, row = some r → ∃ o : Obj, W.heap[r]? = some o ∧ o.isCells = false) : d.R e W' base ok v xs :=
  Kd.R_mono (Kd.R_grown (Kd.R_bound h) hg (fun k hk e' => by
    obtain ⟨_, _, _, q, _, cells, hc⟩ := hk
    obtain ⟨o, ho, hn⟩ := hr k e'.symm
    rw [hc] at ho
    cases ho
    cases hn)) (fun _ hk => hk.1)
theorem R_putObj (h : d.R e W base ok v xs) {l : Nat} {o : Obj} (o' : Obj) (hl : W.heap[l]? = some o) (ho : o.isCells = false) : d.R e (W.putObj l o') base ok v xs :=
  R_own h (grownBy_putObj' W l o') (fun r e' => by cases e'; exact ⟨o, hl, ho⟩)
/-- The row that is written holds cells: what is no cells lies as it lay. -/
theorem R_keepsOthers (h : d.R e W base ok v xs) (hg : W.grownBy W' v.ownBlock) : KeepsOthers W W' :=
  KeepsOthers.of_grownBy hg (fun j o ej hj => by
    obtain ⟨cells, hc⟩ := Kd.R_typed h j ej
    rw [hc] at hj
    cases hj
    rfl)
/-- A box of another type beside the row: it lies as it lay. -/
theorem Boxed.beside {B t : Nat} {u : Value} (h : Boxed W B t u) (hte : t ≠ e) (hr : d.R e W base ok v xs) (hg : W.grownBy W' v.ownBlock) : Boxed W' B t u := by
  obtain ⟨inner, ho⟩ := Kd.R_own hr
  exact h.kept hg (h.not_row hte ho)
theorem Boxed.ne_row {B t : Nat} {u : Value} (h : Boxed W B t u) (hte : t ≠ e) (hr : d.R e W base ok v xs) : some B ≠ v.ownBlock := by
  obtain ⟨inner, ho⟩ := Kd.R_own hr
  exact h.not_row hte ho
end
/-- An element of a row of whole numbers that is read. -/
theorem C_at {k : IntKind} {w : World} {A : Option Addr} {n : Nat} {xs : List Int} (h : Kd.C (Kd.int k) w A n xs) (j : Nat) (hj : j < n) : ∃ ad, A = some ad ∧ w.cell? (ad.add j) = some (.int k (xs.getD j 0)) := by
  obtain ⟨ad, c, e, _, hK, hc⟩ := Kd.C_get h (0 : Int) (j : Int) (by omega) (by omega)
  refine ⟨ad, e, ?_⟩
  have h1 : c = [.int k (xs.getD j 0)] := hK
  have := hc 0 (.int k (xs.getD j 0)) (by rw [h1]; rfl)
  simpa [Kd.int, Kd.scalar] using this
/-- What the loops over functions that are over have left among the activation's deferred calls: marks, each with its block. -/
def Marks (B : Nat) (ds : List Deferred) (W : World) : Prop := ds.Nodup ∧ ∀ d ∈ ds, ∃ D, d = { target := .collected D, args := #[] } ∧ B ≤ D ∧ W.heap[D]? = some (.deferred (some []))
theorem Marks.nil (B : Nat) (W : World) : Marks B [] W := ⟨List.nodup_nil, fun d hd => by cases hd⟩
theorem Marks.keep {B : Nat} {ds : List Deferred} {W W' : World} (h : Marks B ds W) (hk : KeepsFrom B W W') : Marks B ds W' :=
  ⟨h.1, fun d hd => by obtain ⟨D, e, hB, hD⟩ := h.2 d hd; exact ⟨D, e, hB, hk.same D _ hB hD rfl⟩⟩
theorem Marks.cons {B D : Nat} {ds : List Deferred} {W0 W : World} (h : Marks B ds W0) (hk : KeepsFrom B W0 W) (hB : B ≤ D) (hnew : W0.heap.size ≤ D) (hD : W.heap[D]? = some (.deferred (some []))) : Marks B ({ target := .collected D, args := #[] } :: ds) W := by
  refine ⟨List.nodup_cons.2 ⟨fun hm => ?_, h.1⟩, fun d hd => ?_⟩
  · obtain ⟨D', e, _, hD'⟩ := h.2 _ hm
    injection e with e _
    injection e with e
    have := (Array.getElem?_eq_some_iff.1 hD').1
    omega
  · rcases List.mem_cons.1 hd with rfl | hd
    · exact ⟨D, rfl, hB, hD⟩
    · exact (h.keep hk).2 d hd
/-- The function's return: the marks are taken up, one by one. -/
theorem leaves_marks {F : Fence} {n : Nat} {P : Program} {fn : Func} {tmps : Array Value} {R : Ending → World → Prop} {B : Nat} : ∀ (ds : List Deferred) (W : World), Marks B ds W →
    (∀ W', (∀ p : World → Prop, OwnFrom B (fun (_ : Unit) W => p W) → p W → p W') → ∃ v, (results fn tmps).run P W' = .ok v W' ∧ R (.returned v) W') → LeavesInM F n P fn tmps R ds .returning W := by
  intro ds
  induction ds with
  | nil => intro W _ h; exact h W (fun p _ hp => hp)
  | cons d ds ih =>
    intro W hm h
    obtain ⟨D, rfl, hB, hD⟩ := hm.2 d (List.mem_cons_self)
    refine ⟨by simp, .inl ⟨_, _, rfl, run_takeDeferred hD, ih _ ⟨(List.nodup_cons.1 hm.1).2, fun d' hd' => ?_⟩ fun W' hW' => ?_⟩⟩
    · obtain ⟨D', rfl, hB', hD'⟩ := hm.2 d' (List.mem_cons_of_mem _ hd')
      refine ⟨D', rfl, hB', (World.putObj_heap_other (fun e => ?_)).trans hD'⟩
      subst e
      exact (List.nodup_cons.1 hm.1).1 hd'
    · exact h W' (fun p hp hpW => hW' p hp (hp.putObj (s := ()) _ hpW hB hD rfl))
section
variable {F : Fence} {n : Nat} {P : Program} {ops : Array Oper} {rest : List Oper} {o : Oper} {a : Act} {Q : Exit → Act → World → Prop} {α : Type}
/-- An operation whose run is known, in a fenced walk. -/
theorem event_runIn {W w1 : World} {v : Value} (hgd : o.guard = none) (hab : ∀ f, o.about P W a.eval ≠ some f) (hop : ∀ c, o.op ≠ .defer c) (hrun : (execOp a.eval o).run P W = .ok (.value v) w1) (h : wpListIn F n P ops Q rest (a.put o.dst v) w1) : wpListIn F n P ops Q (o :: rest) a W := by
  refine wpListIn_plain hgd fun K hK => ?_
  unfold Oper.wpIn
  refine ⟨fun f hf => absurd hf (hab f), ?_⟩
  rw [Oper.semAt_plain F _ _ hop, hrun]
  exact hK _ _ h
/-- append(v, x) in a fenced walk, behind 'gi_at_builtin'; as Kd.R_append. -/
theorem R_appendIn (d : Kd α) {w0 W : World} (base : Nat) (hgd : o.guard = none) (s x : Operand) (t e : TypeId) (z : Value) (bytes : Nat)
    (ho : o.op = .call { callee := .builtin .append, args := #[s, x], argTypes := #[t, t] })
    (ht : P.underlying t = some (.slice e)) (hinfo : (P.info? e).map (fun i => (i.zero, i.size, i.bytes)) = some (some z, d.sz, bytes)) (hz : z.cells.size = d.sz) (hs0 : 0 < d.sz) (hb0 : 0 < bytes)
    (v : Value) (xs : List α) (p : α) (cs : List Value) (ok okp : Nat → Prop) (hs : a.eval s = v) (hx : a.eval x = .slice (some ⟨W.heap.size, 0, none⟩) 1 1) (hp : d.M W base okp p cs) (hokp : ∀ k, okp k → ok k ∧ some k ≠ v.ownBlock) (hfresh : ∀ k, W.heap.size ≤ k → ok k)
    (HO : d.R e W base ok v xs) (HB : Below base w0 W) (hbase : base ≤ W.heap.size) (hl : (xs.length + 1) * bytes ≤ 140737488355328)
    (h : ∀ v1 w1, d.R e w1 base ok v1 (xs ++ [p]) → Below base w0 w1 → W.grownBy w1 v.ownBlock → (v1.ownBlock = v.ownBlock ∨ ∃ b, v1.ownBlock = some b ∧ W.heap.size ≤ b) → wpListIn F n P ops Q rest (a.put o.dst v1) w1) :
    wpListIn F n P ops Q (o :: rest) a (W.alloc (.cells cs.toArray e)) := by
  obtain ⟨h0, inner, hown, hr⟩ := HO
  obtain ⟨i0, hi, hzz⟩ := Option.map_eq_some_iff.1 hinfo
  simp only [Prod.mk.injEq] at hzz
  obtain ⟨hz0, hz1, hz2⟩ := hzz
  have hlen : xs.length + 1 ≤ 140737488355328 := Nat.le_trans (Nat.le_mul_of_pos_right _ hb0) hl
  have hcl := d.K_len (d.K_of_M hp)
  obtain ⟨v1, w1, hrun, hown1, hg, _, hat⟩ := run_append_own_at (P := P) (W.alloc (.cells cs.toArray e)) base t o.type e i0 z d.sz bytes ht hi hz0 hz1 hz2 hz hs0 v xs.length inner (hown.alloc _) ⟨W.heap.size, 0, none⟩ 1 1 cs (by rw [hcl]; simp)
    (by simpa using World.news_of_block (cs := cs.toArray) (t := e) (fr := (0, 0)) (heap_alloc_new W (.cells cs.toArray e))) (d.K_one (d.K_of_M hp)) (by simp only [maxLen]; omega) hl (by simp; omega)
  have hg' : W.grownBy w1 v.ownBlock := World.grownBy.trans (World.grownBy_alloc W _ _) hg
  have hat' : v1.ownBlock = v.ownBlock ∨ ∃ b, v1.ownBlock = some b ∧ W.heap.size ≤ b := by
    rcases hat with hat | hat
    · exact .inl hat
    · exact .inr ⟨_, hat, by simp⟩
  refine event_runIn (v := v1) (w1 := w1) hgd (by simp [Oper.about, ho, resolve, Target.leads, Sem.run_pure]) (by rw [ho]; intro c hc'; cases hc') ?_ (h v1 w1 (Kd.R_appended h0 hr hp hokp hfresh hown1 hg' hat') ((HB.alloc hbase _).grown hg (by simp; omega) (own_base hown)) hg' hat')
  simp [execOp, ho, resolve, invoke, builtin, hs, hx, hrun, Result.andThen]
end
theorem setCell_heap_other {W : World} {B D : Nat} {o : Obj} (u : Value) (h : W.heap[D]? = some o) (hne : D ≠ B) : (W.setCell ⟨B, 0, none⟩ u).heap[D]? = some o :=
  ((grownBy_setCell' W B u).block D (Array.getElem?_eq_some_iff.1 h).1 (fun e => hne (by cases e; rfl))).trans h
theorem boxed_putObj {W : World} {B D t : Nat} {v : Value} (h : Boxed W B t v) (o : Obj) (hne : B ≠ D) : Boxed (W.putObj D o) B t v := h.kept (grownBy_putObj' W D o) (fun e => hne (by cases e; rfl))
section
variable {P : Program}
theorem run_loadVar_cell (t : TypeId) (a : Addr) (v : Value) (w : World) (d : TypeDesc) (hu : P.underlying t = some d) (hd : (match d with | .struct _ | .array _ _ => false | _ => true) = true) (hc : w.cell? a = some v) :
    (loadVar t a).run P w = .ok v w := by
  have hagg : (isAgg t).run P w = .ok false w := by
    unfold isAgg
    rw [Sem.run_bind, run_underlying hu w]
    cases d <;> simp_all
  have hl : (load a).run P w = .ok v w := by simp [go_sem, hc]
  unfold loadVar
  rw [Sem.run_bind, hagg]
  simpa using hl
/-- Two results in variables that are boxed. -/
theorem results_cells2 {fn : Func} {p q : Tmp} {t u : TypeId} (h : fn.results = #[.cell p t, .cell q u]) (tmps : Array Value) (w : World) (a b : Addr) (x y : Value) (d d' : TypeDesc)
    (hp : tmps.getD p undef = .pointer (some a)) (hq : tmps.getD q undef = .pointer (some b)) (hu : P.underlying t = some d) (hd : (match d with | .struct _ | .array _ _ => false | _ => true) = true)
    (hu' : P.underlying u = some d') (hd' : (match d' with | .struct _ | .array _ _ => false | _ => true) = true) (hx : w.cell? a = some x) (hy : w.cell? b = some y) :
    (results fn tmps).run P w = .ok (.tuple #[x, y]) w := by
  have hp' : tmps[p]?.getD undef = .pointer (some a) := by simpa using hp
  have hq' : tmps[q]?.getD undef = .pointer (some b) := by simpa using hq
  simp [results, h, hp', hq', asAddr, run_loadVar_cell t a x w d hu hd hx, run_loadVar_cell u b y w d' hu' hd' hy]
end
end Go.Proofs.YtpeacnljdkejmaaGreat.H
