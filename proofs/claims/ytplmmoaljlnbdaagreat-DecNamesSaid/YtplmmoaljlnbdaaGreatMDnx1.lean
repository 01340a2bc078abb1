/- Gathered by a program (wip/merge.py): HKit, HIter, HKit2, HBoth, HFix, HWindow, HFunc. -/
import Derived.RangeFuncNested
import Derived.RangeFuncBound
import Derived.RangeFuncCalls
import Derived.RangeFuncLeaves
import Derived.Shelf.Abstract
import Derived.WalkKit
import Derived.OwnWalkIn
import Derived.TacticsInMore
import Derived.LoopNIn
import Derived.LoopIn
import Derived.WalkSpells
import Derived.Maps.AppendAt
import Derived.Lib.Hide
import Derived.Test.YtplmmoaljlnbdaaGreatWWords
import Derived.Test.YtplmmoaljlnbdaaGreatWMore
import Derived.ArgAppend
import Derived.Test.YtplmmoaljlnbdaaGreatProg
import Derived.Shelf.RegionOpen
import Derived.Sort.QuietIn
import Derived.IntWalk

section
/- Small laws for proofs by hand over the printed words: what an iterator asks its rounds to keep; rows of one's own inside a fenced walk. -/
namespace Go.Proofs.YtplmmoaljlnbdaaGreat.Hd
open Go.RowKit Go.Shelf Go.Proofs.YtplmmoaljlnbdaaGreatW.PrintWords Go.Proofs.YtplmmoaljlnbdaaGreatW.PrintMore
set_option linter.unusedVariables false
set_option linter.unusedSimpArgs false

/-- What a round keeps for an iterator: all below n₀, and the blocks of S. -/
structure Kpt (n₀ : Nat) (S : Nat → Prop) (W W' : World) : Prop where
  below : Below n₀ W W'
  at_ : ∀ k, S k → W'.heap[k]? = W.heap[k]?
theorem Kpt.refl (n₀ : Nat) (S : Nat → Prop) (W : World) : Kpt n₀ S W W := ⟨Below.refl _ _, fun _ _ => rfl⟩
theorem Kpt.trans {n₀ : Nat} {S : Nat → Prop} {A B C : World} (h : Kpt n₀ S A B) (k : Kpt n₀ S B C) : Kpt n₀ S A C := ⟨h.below.trans k.below, fun i hi => (k.at_ i hi).trans (h.at_ i hi)⟩
theorem Kpt.book {n₀ : Nat} {S : Nat → Prop} {w : World} (hn : n₀ ≤ w.heap.size) (hS : ∀ k, S k → k < w.heap.size) (W : World) (l : Nat) (o o' : Obj) (hl : w.heap.size ≤ l) (h : W.heap[l]? = some o) (hc : o.isCells = false) (hw : o.isWalk = false) : Kpt n₀ S W (W.putObj l o') :=
  ⟨belowK_b hn W l o o' hl h hc hw, fun k hk => World.putObj_heap_other (fun e => by have := hS k hk; omega)⟩
theorem Kpt.alloc {n₀ : Nat} {S : Nat → Prop} {w W : World} (h : Kpt n₀ S w W) (hn : n₀ ≤ w.heap.size) (hS : ∀ k, S k → k < w.heap.size) (o : Obj) : Kpt n₀ S w (W.alloc o) :=
  ⟨h.below.alloc (Nat.le_trans hn h.below.size) o, fun k hk => (Below.heap_alloc W o k (Nat.lt_of_lt_of_le (hS k hk) h.below.size)).trans (h.at_ k hk)⟩
theorem Kpt.drew {n₀ : Nat} {S : Nat → Prop} {w W : World} (h : Kpt n₀ S w W) : Kpt n₀ S w W.drew := ⟨h.below.drew, h.at_⟩
theorem Kpt.drewN {n₀ : Nat} {S : Nat → Prop} {w W : World} (h : Kpt n₀ S w W) (m : Nat) : Kpt n₀ S w (W.drewN m) := ⟨pw_below_drewN h.below m, h.at_⟩
/-- A step that turns one block (or none): it is none of those. -/
theorem Kpt.grown {n₀ : Nat} {S : Nat → Prop} {w W W' : World} {row : Option Nat} (h : Kpt n₀ S w W) (hn : n₀ ≤ w.heap.size) (hS : ∀ k, S k → k < w.heap.size) (hg : W.grownBy W' row) (hr : ∀ k, row = some k → n₀ ≤ k ∧ ¬ S k) : Kpt n₀ S w W' :=
  ⟨h.below.grown hg (Nat.le_trans hn h.below.size) (fun k e => (hr k e).1), fun k hk => (hg.block k (Nat.lt_of_lt_of_le (hS k hk) h.below.size) (fun e => (hr k e.symm).2 hk)).trans (h.at_ k hk)⟩
/-- A call from W on that turns nothing that lay. -/
theorem Kpt.step {n₀ : Nat} {S : Nat → Prop} {w W W' : World} (h : Kpt n₀ S w W) (hn : n₀ ≤ w.heap.size) (hS : ∀ k, S k → k < w.heap.size) (hb : Below W.heap.size W W') : Kpt n₀ S w W' :=
  ⟨below_then h.below (Nat.le_trans hn h.below.size) hb, fun k hk => (hb.block k (Nat.lt_of_lt_of_le (hS k hk) h.below.size)).trans (h.at_ k hk)⟩
theorem Kpt.cell {n₀ : Nat} {S : Nat → Prop} {W W' : World} (h : Kpt n₀ S W W') {p : Addr} (hp : p.block < n₀ ∨ S p.block) : W'.cell? p = W.cell? p := by
  rcases hp with hp | hp
  · exact h.below.cell hp
  · exact World.cell?_of_block (h.at_ _ hp)
/-- It abides the turn of a new block that is no cells. -/
theorem Kpt.own {β : Type} {n₀ B : Nat} {S : Nat → Prop} {w : World} (hn : n₀ ≤ w.heap.size) (hB : n₀ ≤ B) (hS : ∀ k, S k → k < w.heap.size) (hSB : ∀ k, S k → k < B) : OwnFrom B (fun (_ : β) W => Kpt n₀ S w W) :=
  fun _ X Y row hs hg hr => hs.grown hn hS hg (fun k e => ⟨Nat.le_trans hB (hr k e).1, fun hk => by have h1 := (hr k e).1; have h2 := hSB k hk; omega⟩)

section
variable {α : Type} {d : Kd α} {e base : Nat} {ok : Nat → Prop} {W W' : World} {v : Value} {xs : List α}
/-- A row of one's own abides the turn of a block that is no cells. -/
theorem R_own (h : d.R e W base ok v xs) {row : Option Nat} (hg : W.grownBy W' row) (hr : ∀ r, row = some r → ∃ o : Obj, W.heap[r]? = some o ∧ o.isCells = false) : d.R e W' base ok v xs :=
  Kd.R_mono (Kd.R_grown (Kd.R_bound h) hg (fun k hk e' => by
    obtain ⟨_, _, _, q, _, cells, hc⟩ := hk
    obtain ⟨o, ho, hn⟩ := hr k e'.symm
    rw [hc] at ho
    cases ho
    cases hn)) (fun _ hk => hk.1)
theorem R_putObj (h : d.R e W base ok v xs) {l : Nat} {o : Obj} (o' : Obj) (hl : W.heap[l]? = some o) (ho : o.isCells = false) : d.R e (W.putObj l o') base ok v xs :=
  R_own h (grownBy_putObj' W l o') (fun r e' => by cases e'; exact ⟨o, hl, ho⟩)
/-- The row that is written holds cells: what is no cells lies as it lay. -/
theorem R_keepsOthers (h : d.R e W base ok v xs) (hg : W.grownBy W' v.ownBlock) : KeepsOthers W W' :=
  KeepsOthers.of_grownBy hg (fun j o ej hj => by
    obtain ⟨cells, hc⟩ := Kd.R_typed h j ej
    rw [hc] at hj
    cases hj
    rfl)
/-- A box of another type beside the row: it lies as it lay. -/
theorem Boxed.beside {B t : Nat} {u : Value} (h : Boxed W B t u) (hte : t ≠ e) (hr : d.R e W base ok v xs) (hg : W.grownBy W' v.ownBlock) : Boxed W' B t u := by
  obtain ⟨inner, ho⟩ := Kd.R_own hr
  exact h.kept hg (h.not_row hte ho)
theorem Boxed.ne_row {B t : Nat} {u : Value} (h : Boxed W B t u) (hte : t ≠ e) (hr : d.R e W base ok v xs) : some B ≠ v.ownBlock := by
  obtain ⟨inner, ho⟩ := Kd.R_own hr
  exact h.not_row hte ho
end
/-- An element of a row of whole numbers that is read. -/
theorem C_at {k : IntKind} {w : World} {A : Option Addr} {n : Nat} {xs : List Int} (h : Kd.C (Kd.int k) w A n xs) (j : Nat) (hj : j < n) : ∃ ad, A = some ad ∧ w.cell? (ad.add j) = some (.int k (xs.getD j 0)) := by
  obtain ⟨ad, c, e, _, hK, hc⟩ := Kd.C_get h (0 : Int) (j : Int) (by omega) (by omega)
  refine ⟨ad, e, ?_⟩
  have h1 : c = [.int k (xs.getD j 0)] := hK
  have := hc 0 (.int k (xs.getD j 0)) (by rw [h1]; rfl)
  simpa [Kd.int, Kd.scalar] using this
/-- What the loops over functions that are over have left among the activation's deferred calls: marks, each with its block. -/
def Marks (B : Nat) (ds : List Deferred) (W : World) : Prop := ds.Nodup ∧ ∀ d ∈ ds, ∃ D, d = { target := .collected D, args := #[] } ∧ B ≤ D ∧ W.heap[D]? = some (.deferred (some []))
theorem Marks.nil (B : Nat) (W : World) : Marks B [] W := ⟨List.nodup_nil, fun d hd => by cases hd⟩
theorem Marks.keep {B : Nat} {ds : List Deferred} {W W' : World} (h : Marks B ds W) (hk : KeepsFrom B W W') : Marks B ds W' :=
  ⟨h.1, fun d hd => by obtain ⟨D, e, hB, hD⟩ := h.2 d hd; exact ⟨D, e, hB, hk.same D _ hB hD rfl⟩⟩
theorem Marks.cons {B D : Nat} {ds : List Deferred} {W0 W : World} (h : Marks B ds W0) (hk : KeepsFrom B W0 W) (hB : B ≤ D) (hnew : W0.heap.size ≤ D) (hD : W.heap[D]? = some (.deferred (some []))) : Marks B ({ target := .collected D, args := #[] } :: ds) W := by
  refine ⟨List.nodup_cons.2 ⟨fun hm => ?_, h.1⟩, fun d hd => ?_⟩
  · obtain ⟨D', e, _, hD'⟩ := h.2 _ hm
    injection e with e _
    injection e with e
    have := (Array.getElem?_eq_some_iff.1 hD').1
    omega
  · rcases List.mem_cons.1 hd with rfl | hd
    · exact ⟨D, rfl, hB, hD⟩
    · exact (h.keep hk).2 d hd
/-- The function's return: the marks are taken up, one by one. -/
theorem leaves_marks {F : Fence} {n : Nat} {P : Program} {fn : Func} {tmps : Array Value} {R : Ending → World → Prop} {B : Nat} : ∀ (ds : List Deferred) (W : World), Marks B ds W →
    (∀ W', (∀ p : World → Prop, OwnFrom B (fun (_ : Unit) W => p W) → p W → p W') → ∃ v, (results fn tmps).run P W' = .ok v W' ∧ R (.returned v) W') → LeavesInM F n P fn tmps R ds .returning W := by
  intro ds
  induction ds with
  | nil => intro W _ h; exact h W (fun p _ hp => hp)
  | cons d ds ih =>
    intro W hm h
    obtain ⟨D, rfl, hB, hD⟩ := hm.2 d (List.mem_cons_self)
    refine ⟨by simp, .inl ⟨_, _, rfl, run_takeDeferred hD, ih _ ⟨(List.nodup_cons.1 hm.1).2, fun d' hd' => ?_⟩ fun W' hW' => ?_⟩⟩
    · obtain ⟨D', rfl, hB', hD'⟩ := hm.2 d' (List.mem_cons_of_mem _ hd')
      refine ⟨D', rfl, hB', (World.putObj_heap_other (fun e => ?_)).trans hD'⟩
      subst e
      exact (List.nodup_cons.1 hm.1).1 hd'
    · exact h W' (fun p hp hpW => hW' p hp (hp.putObj (s := ()) _ hpW hB hD rfl))
section
variable {F : Fence} {n : Nat} {P : Program} {ops : Array Oper} {rest : List Oper} {o : Oper} {a : Act} {Q : Exit → Act → World → Prop} {α : Type}
/-- An operation whose run is known, in a fenced walk. -/
theorem event_runIn {W w1 : World} {v : Value} (hgd : o.guard = none) (hab : ∀ f, o.about P W a.eval ≠ some f) (hop : ∀ c, o.op ≠ .defer c) (hrun : (execOp a.eval o).run P W = .ok (.value v) w1) (h : wpListIn F n P ops Q rest (a.put o.dst v) w1) : wpListIn F n P ops Q (o :: rest) a W := by
  refine wpListIn_plain hgd fun K hK => ?_
  unfold Oper.wpIn
  refine ⟨fun f hf => absurd hf (hab f), ?_⟩
  rw [Oper.semAt_plain F _ _ hop, hrun]
  exact hK _ _ h
/-- append(v, x) in a fenced walk, behind 'gi_at_builtin'; as Kd.R_append. -/
theorem R_appendIn (d : Kd α) {w0 W : World} (base : Nat) (hgd : o.guard = none) (s x : Operand) (t e : TypeId) (z : Value) (bytes : Nat)
    (ho : o.op = .call { callee := .builtin .append, args := #[s, x], argTypes := #[t, t] })
    (ht : P.underlying t = some (.slice e)) (hinfo : (P.info? e).map (fun i => (i.zero, i.size, i.bytes)) = some (some z, d.sz, bytes)) (hz : z.cells.size = d.sz) (hs0 : 0 < d.sz) (hb0 : 0 < bytes)
    (v : Value) (xs : List α) (p : α) (cs : List Value) (ok okp : Nat → Prop) (hs : a.eval s = v) (hx : a.eval x = .slice (some ⟨W.heap.size, 0, none⟩) 1 1) (hp : d.M W base okp p cs) (hokp : ∀ k, okp k → ok k ∧ some k ≠ v.ownBlock) (hfresh : ∀ k, W.heap.size ≤ k → ok k)
    (HO : d.R e W base ok v xs) (HB : Below base w0 W) (hbase : base ≤ W.heap.size) (hl : (xs.length + 1) * bytes ≤ 140737488355328)
    (h : ∀ v1 w1, d.R e w1 base ok v1 (xs ++ [p]) → Below base w0 w1 → W.grownBy w1 v.ownBlock → (v1.ownBlock = v.ownBlock ∨ ∃ b, v1.ownBlock = some b ∧ W.heap.size ≤ b) → wpListIn F n P ops Q rest (a.put o.dst v1) w1) :
    wpListIn F n P ops Q (o :: rest) a (W.alloc (.cells cs.toArray e)) := by
  obtain ⟨h0, inner, hown, hr⟩ := HO
  obtain ⟨i0, hi, hzz⟩ := Option.map_eq_some_iff.1 hinfo
  simp only [Prod.mk.injEq] at hzz
  obtain ⟨hz0, hz1, hz2⟩ := hzz
  have hlen : xs.length + 1 ≤ 140737488355328 := Nat.le_trans (Nat.le_mul_of_pos_right _ hb0) hl
  have hcl := d.K_len (d.K_of_M hp)
  obtain ⟨v1, w1, hrun, hown1, hg, _, hat⟩ := run_append_own_at (P := P) (W.alloc (.cells cs.toArray e)) base t o.type e i0 z d.sz bytes ht hi hz0 hz1 hz2 hz hs0 v xs.length inner (hown.alloc _) ⟨W.heap.size, 0, none⟩ 1 1 cs (by rw [hcl]; simp)
    (by simpa using World.news_of_block (cs := cs.toArray) (t := e) (fr := (0, 0)) (heap_alloc_new W (.cells cs.toArray e))) (d.K_one (d.K_of_M hp)) (by simp only [maxLen]; omega) hl (by simp; omega)
  have hg' : W.grownBy w1 v.ownBlock := World.grownBy.trans (World.grownBy_alloc W _ _) hg
  have hat' : v1.ownBlock = v.ownBlock ∨ ∃ b, v1.ownBlock = some b ∧ W.heap.size ≤ b := by
    rcases hat with hat | hat
    · exact .inl hat
    · exact .inr ⟨_, hat, by simp⟩
  refine event_runIn (v := v1) (w1 := w1) hgd (by simp [Oper.about, ho, resolve, Target.leads, Sem.run_pure]) (by rw [ho]; intro c hc'; cases hc') ?_ (h v1 w1 (Kd.R_appended h0 hr hp hokp hfresh hown1 hg' hat') ((HB.alloc hbase _).grown hg (by simp; omega) (own_base hown)) hg' hat')
  simp [execOp, ho, resolve, invoke, builtin, hs, hx, hrun, Result.andThen]
end
theorem setCell_heap_other {W : World} {B D : Nat} {o : Obj} (u : Value) (h : W.heap[D]? = some o) (hne : D ≠ B) : (W.setCell ⟨B, 0, none⟩ u).heap[D]? = some o :=
  ((grownBy_setCell' W B u).block D (Array.getElem?_eq_some_iff.1 h).1 (fun e => hne (by cases e; rfl))).trans h
theorem boxed_putObj {W : World} {B D t : Nat} {v : Value} (h : Boxed W B t v) (o : Obj) (hne : B ≠ D) : Boxed (W.putObj D o) B t v := h.kept (grownBy_putObj' W D o) (fun e => hne (by cases e; rfl))
/-- What make leaves, as a row of whole numbers. -/
theorem R_made (W : World) (base : Nat) (e : TypeId) (k : IntKind) (n : Nat) (hb : base ≤ W.heap.size) (hn : n ≤ 9223372036854775807) :
    Kd.R (Kd.int k) e (W.alloc (.cells (madeCells #[.int k 0] n) e)) base (fun _ => True) (.slice (some ⟨W.heap.size, 0, none⟩) n n) (List.replicate n 0) := by
  have h := own_made W base e k n hb hn
  refine Kd.R_of_own ?_ (fun _ _ => trivial)
  rw [List.length_replicate]
  exact h
/-- A row of whole numbers of one's own: an element is read, is written, at a natural number. -/
theorem R_cellN {k : IntKind} {e base g n c : Nat} {ok : Nat → Prop} {W : World} {xs : List Int} (h : Kd.R (Kd.int k) e W base ok (.slice (some ⟨g, 0, none⟩) n c) xs) (hl : xs.length = n) (j : Nat) (hj : j < n) :
    W.cell? ⟨g, j, none⟩ = some (.int k (xs.getD j 0)) ∧ W.frozen? ⟨g, j, none⟩ = false := by
  subst hl
  have := Kd.R_cell 0 h (j : Int) (by omega) (by omega)
  simpa [rdOf] using this
theorem R_putN {k : IntKind} {e base g n c : Nat} {ok : Nat → Prop} {W : World} {xs : List Int} (h : Kd.R (Kd.int k) e W base ok (.slice (some ⟨g, 0, none⟩) n c) xs) (hl : xs.length = n) (j : Nat) (x : Int) :
    Kd.R (Kd.int k) e (W.setCell ⟨g, j, none⟩ (.int k x)) base ok (.slice (some ⟨g, 0, none⟩) n c) (xs.set j x) := by
  subst hl
  exact (Kd.R_put h (j : Int) x).1
section
variable {P : Program}
theorem run_loadVar_cell (t : TypeId) (a : Addr) (v : Value) (w : World) (d : TypeDesc) (hu : P.underlying t = some d) (hd : (match d with | .struct _ | .array _ _ => false | _ => true) = true) (hc : w.cell? a = some v) :
    (loadVar t a).run P w = .ok v w := by
  have hagg : (isAgg t).run P w = .ok false w := by
    unfold isAgg
    rw [Sem.run_bind, run_underlying hu w]
    cases d <;> simp_all
  have hl : (load a).run P w = .ok v w := by simp [go_sem, hc]
  unfold loadVar
  rw [Sem.run_bind, hagg]
  simpa using hl
/-- An element of an array that is a value. -/
theorem run_index_arr (t e : TypeId) (n : Nat) (cs : Array Value) (k : IntKind) (i : Nat) (hi : i < n) (v : Value) (hv : cs[i]? = some v) (h : P.underlying t = some (.array n e)) (d : TypeDesc) (he : P.underlying e = some d)
    (hd : (match d with | .struct _ | .array _ _ => false | _ => true) = true) (ti : TypeInfo) (hti : P.info? e = some ti) (hs : ti.size = 1) (w : World) : (Instr.index t (.agg cs) (.int k (i : Int))).run P w = .ok v w := by
  have hagg : (isAgg e).run P w = .ok false w := by
    unfold isAgg
    rw [Sem.run_bind, run_underlying he w]
    cases d <;> simp_all
  have hsz : (sizeOf e).run P w = .ok 1 w := (run_sizeOf w hti).trans (by simp [Program.cellsOf, hti, hs])
  have h2 : (i : Int) < n := by omega
  unfold Instr.index
  simp [Sem.run_bind, asIntOf, run_underlying h w, Result.andThen, hi, hsz, part, hagg, hv]
/-- Two results in variables that are boxed. -/
theorem results_cells2 {fn : Func} {p q : Tmp} {t u : TypeId} (h : fn.results = #[.cell p t, .cell q u]) (tmps : Array Value) (w : World) (a b : Addr) (x y : Value) (d d' : TypeDesc)
    (hp : tmps.getD p undef = .pointer (some a)) (hq : tmps.getD q undef = .pointer (some b)) (hu : P.underlying t = some d) (hd : (match d with | .struct _ | .array _ _ => false | _ => true) = true)
    (hu' : P.underlying u = some d') (hd' : (match d' with | .struct _ | .array _ _ => false | _ => true) = true) (hx : w.cell? a = some x) (hy : w.cell? b = some y) :
    (results fn tmps).run P w = .ok (.tuple #[x, y]) w := by
  have hp' : tmps[p]?.getD undef = .pointer (some a) := by simpa using hp
  have hq' : tmps[q]?.getD undef = .pointer (some b) := by simpa using hq
  simp [results, h, hp', hq', asAddr, run_loadVar_cell t a x w d hu hd hx, run_loadVar_cell u b y w d' hu' hd' hy]
end
end Go.Proofs.YtplmmoaljlnbdaaGreat.Hd
end

section
/- A range over a function whose yielded values lead to memory: the body is told how each one lies. -/
namespace Go.Proofs.YtplmmoaljlnbdaaGreat.Hd
open Go.RowKit Go.Shelf
set_option linter.unusedVariables false
set_option linter.unusedSimpArgs false

section
variable {F : Fence} {n : Nat} {P : Program} {β : Type}
/-- An iterator that yields xs, one by one: each element by values that stand for it where they are yielded (Rep); St: what the iterator itself does between two of them; Kp: what it asks a round to keep. -/
def IterAt (F : Fence) (n : Nat) (P : Program) (g : Nat) (lb : Array Value) (Rep : β → Array Value → World → Prop) (St Kp : World → World → Prop) (xs : List β) (w : World) : Prop :=
  ∀ (l : Nat) (J : Nat → World → Prop) (Jx : World → Prop) (W : World), Below w.heap.size w W → (∀ k A B, J k A → St A B → J k B) → (∀ A B, Jx A → St A B → Jx B) →
    (∀ k args W1 (hk : k < xs.length), J k W1 → Rep xs[k] args W1 → YieldAt F (n - 1) P l args W1 fun e W' => (e = .returned (.bool true) ∧ J (k + 1) W' ∧ Kp W1 W') ∨ (e = .returned (.bool false) ∧ Jx W')) →
    J 0 W → CallsIn F n P g (#[.func (.yield l) #[] #[]] ++ lb) W fun e W' => (∃ v, e = .returned v) ∧ (J xs.length W' ∨ Jx W')
/-- How a round may be left. -/
def iterPost (B : Nat) (Kp : World → World → Prop) (I : Nat → World → Prop) (Ix : Code → World → Prop) (k : Nat) (W : World) : Exit → Act → World → Prop
  | .normal, _, W' => KeepsFrom B W W' ∧ Kp W W' ∧ I (k + 1) W'
  | .ret, _, W' => KeepsFrom B W W' ∧ Ix .ret W'
  | .exit id, _, W' => KeepsFrom B W W' ∧ Ix (.exit id) W'
  | .goto t, _, W' => KeepsFrom B W W' ∧ Ix (.goto t) W'
  | _, _, _ => False

theorem keeps_put {W : World} {l d : Nat} {o : Obj} (o' : Obj) (h : W.heap[d]? = some o) (hne : d ≠ l) : (W.putObj l o').heap[d]? = some o := (World.putObj_heap_other hne).trans h

theorem wpIn_rangeIter {g : Operand} {ps : Array Tmp} {assign body : Code} {Q : Exit → Act → World → Prop} {a : Act} {w : World}
    (hro : F.round = none) (h1 : 1 ≤ n) {gf : Nat} {lb : Array Value} (hg : a.eval g = .func (.func gf) #[] lb) (hFg : F.fn gf) (eg : ∀ args w, (callFunc gf args).run P w = .ok (.enter gf args) w)
    {Rep : β → Array Value → World → Prop} {St Kp : World → World → Prop} {xs : List β} {w0 : World} (hseq : IterAt F (n - 1) P gf lb Rep St Kp xs w0) (hb0 : Below w0.heap.size w0 w)
    (hSt : ∀ A B, St A B → KeepsOthers A B) (hKt : ∀ {A B C : World}, Kp A B → Kp B C → Kp A C) (hKb : ∀ (W : World) (l : Nat) (o o' : Obj), w.heap.size ≤ l → W.heap[l]? = some o → o.isCells = false → o.isWalk = false → Kp W (W.putObj l o'))
    (hps : ∀ x args W, Rep x args W → args.size = ps.size)
    (I : Nat → World → Prop) (Ix : Code → World → Prop) (hI : OwnFrom w.heap.size I) (hIx : ∀ c, OwnFrom w.heap.size (fun (_ : Unit) W => Ix c W)) (hIs : ∀ k A B, I k A → St A B → I k B) (hIxs : ∀ c A B, Ix c A → St A B → Ix c B) (h0 : I 0 w)
    (hround : ∀ l k args W (hk : k < xs.length), w.heap.size ≤ l → (∃ r, W.heap[l]? = some (.loop r)) → I k W → Rep xs[k] args W →
      assign.wpIn (F.inRound l) (n - 1 - 1) P (Exit.then (fun a₁ W₁ => KeepsFrom w.heap.size W W₁ ∧ Kp W W₁ ∧ ∀ r', body.wpIn (F.inRound l) (n - 1 - 1) P (iterPost w.heap.size Kp I Ix k (W₁.putObj l (.loop r'))) a₁ (W₁.putObj l (.loop r'))) (fun _ _ _ => False))
        { tmps := (ps.zip args).foldl (fun t (p, v) => t.setIfInBounds p v) a.tmps, defers := [] } W)
    (hdone : ∀ (D : Nat) (W : World), w.heap.size ≤ D → I xs.length W → W.heap[D]? = some (.deferred (some [])) → Q .normal { a with defers := { target := .collected D, args := #[] } :: a.defers } W)
    (hstop : ∀ (D : Nat) (c : Code) (W : World), w.heap.size ≤ D → Ix c W → W.heap[D]? = some (.deferred (some [])) → c.wpIn F n P Q { a with defers := { target := .collected D, args := #[] } :: a.defers } W) :
    (Code.rangeFunc g ps assign body).wpIn F n P Q a w := by
  refine wpIn_rangeFunc fun fn hfn => ?_
  -- the loop's record, in each of its states
  let R : LoopState → Option Code → Loop := fun s p => { state := s, pending := p, fn := fn, tmps := a.tmps, params := ps, assign := assign, body := body, defers := w.heap.size }
  let D := w.heap.size
  let L := w.heap.size + 1
  let Wa := w.alloc (.deferred (some []))
  let Wb := Wa.alloc (.loop (R .ready none))
  have sa : Wa.heap.size = w.heap.size + 1 := World.size_alloc _ _
  have hD0 : Wb.heap[D]? = some (.deferred (some [])) := (Below.heap_alloc Wa _ D (by rw [sa]; exact Nat.lt_succ_self _)).trans (World.alloc_heap_new w _)
  have hL0 : Wb.heap[L]? = some (.loop (R .ready none)) := by
    have h := World.alloc_heap_new Wa (.loop (R .ready none))
    rw [sa] at h
    exact h
  have hbw : Below w0.heap.size w0 Wb := (hb0.alloc hb0.size _).alloc (by rw [sa]; have := hb0.size; omega) _
  rw [hro]
  refine ⟨L, [{ target := .collected D, args := #[] }], Wb, { target := .fn (.func gf) lb, args := #[.func (.yield L) #[] #[]] }, Wb, gf, #[.func (.yield L) #[] #[]] ++ lb, Wb, run_enterLoop_outer _ _ _ _ _, ?_, ?_, ?_, fun _ => h1, ?_⟩
  · simp only [resolve, hg]
    simp [go_sem]
  · intro f' hf'
    simp [Target.leads] at hf'
    exact hf' ▸ hFg
  · simp [invoke, go_sem, eg]
  -- what goes on beside the caller's own invariant: the record, and the block for deferred calls
  let J : Nat → World → Prop := fun k W => I k W ∧ W.heap[L]? = some (.loop (R .ready none)) ∧ W.heap[D]? = some (.deferred (some []))
  let Jx : World → Prop := fun W => ∃ c, Ix c W ∧ W.heap[L]? = some (.loop (R .done (some c))) ∧ W.heap[D]? = some (.deferred (some []))
  have hDL : D ≠ L := Nat.ne_of_lt (Nat.lt_succ_self _)
  have kp : ∀ {A B : World} {i : Nat} {o : Obj}, St A B → A.heap[i]? = some o → o.isCells = false → B.heap[i]? = some o := fun hs h ho => (hSt _ _ hs).same _ _ h ho
  refine (hseq L J Jx Wb hbw (fun k A B h hs => ⟨hIs k A B h.1 hs, kp hs h.2.1 rfl, kp hs h.2.2 rfl⟩)
    (fun A B h hs => by obtain ⟨c, hc, hl, hd⟩ := h; exact ⟨c, hIxs c A B hc hs, kp hs hl rfl, kp hs hd rfl⟩) ?_ ⟨hI.alloc _ (hI.alloc _ h0), hL0, hD0⟩).mono ?_
  · -- one round
    rintro k args W hk ⟨hi, hl, hd⟩ hrep
    refine ⟨fn, _, assign, body, run_yield hl (hps _ _ _ hrep), roundIn_of_wpIn hfn (wpIn_mono (hround L k args W hk (Nat.le_succ _) ⟨_, hl⟩ hi hrep) ?_)⟩
    rintro e a₁ W₁ hq
    cases e with
    | normal =>
      obtain ⟨hkf, hkp, hbody⟩ := hq
      have hl1 := hkf.same L _ (Nat.le_succ _) hl rfl
      have hd1 := hkf.same D _ (Nat.le_refl _) hd rfl
      have lt1 : L < W₁.heap.size := (Array.getElem?_eq_some_iff.1 hl1).1
      refine ⟨_, run_beginRound hl1 rfl, wpIn_mono (hbody _) ?_⟩
      have hl2 : (W₁.putObj L (.loop (R .busy none))).heap[L]? = some (.loop (R .busy none)) := World.putObj_heap_same lt1
      have hd2 := keeps_put (l := L) (.loop (R .busy none)) hd1 hDL
      have hkp2 : Kp W (W₁.putObj L (.loop (R .busy none))) := hKt hkp (hKb _ _ _ _ (Nat.le_succ _) hl1 rfl rfl)
      -- the round's end, whatever jump is pending
      have fin : ∀ (p : Option Code) (V : World), KeepsFrom w.heap.size (W₁.putObj L (.loop (R .busy none))) V → V.heap[L]? = some (.loop (R .busy none)) ∧ V.heap[D]? = some (.deferred (some [])) ∧ L < V.heap.size := fun p V hV => by
        have h := hV.same L _ (Nat.le_succ _) hl2 rfl
        exact ⟨h, hV.same D _ (Nat.le_refl _) hd2 rfl, (Array.getElem?_eq_some_iff.1 h).1⟩
      rintro e2 a2 V hq2
      cases e2 with
      | normal =>
        obtain ⟨hV, hkV, hiV⟩ := hq2
        obtain ⟨f1, f2, f3⟩ := fin none V hV
        exact ⟨_, _, run_endRound none f1, .inl ⟨rfl, ⟨hI.putObj _ hiV (Nat.le_succ _) f1 rfl, World.putObj_heap_same f3, keeps_put _ f2 hDL⟩, hKt hkp2 (hKt hkV (hKb _ _ _ _ (Nat.le_succ _) f1 rfl rfl))⟩⟩
      | ret =>
        obtain ⟨hV, hiV⟩ := hq2
        obtain ⟨f1, f2, f3⟩ := fin none V hV
        exact ⟨_, _, run_endRound (some .ret) f1, .inr ⟨rfl, .ret, (hIx _).putObj (s := ()) _ hiV (Nat.le_succ _) f1 rfl, World.putObj_heap_same f3, keeps_put _ f2 hDL⟩⟩
      | exit id =>
        obtain ⟨hV, hiV⟩ := hq2
        obtain ⟨f1, f2, f3⟩ := fin none V hV
        exact ⟨_, _, run_endRound (some (.exit id)) f1, .inr ⟨rfl, .exit id, (hIx _).putObj (s := ()) _ hiV (Nat.le_succ _) f1 rfl, World.putObj_heap_same f3, keeps_put _ f2 hDL⟩⟩
      | goto t =>
        obtain ⟨hV, hiV⟩ := hq2
        obtain ⟨f1, f2, f3⟩ := fin none V hV
        exact ⟨_, _, run_endRound (some (.goto t)) f1, .inr ⟨rfl, .goto t, (hIx _).putObj (s := ()) _ hiV (Nat.le_succ _) f1 rfl, World.putObj_heap_same f3, keeps_put _ f2 hDL⟩⟩
      | panic c => exact hq2.elim
      | outgrown => exact hq2.elim
    | exit id => exact hq.elim
    | goto t => exact hq.elim
    | ret => exact hq.elim
    | panic c => exact hq.elim
    | outgrown => exact hq.elim
  · -- behind the iterator
    rintro e W ⟨⟨v, rfl⟩, hj | ⟨c, hc, hl, hd⟩⟩
    · obtain ⟨hi, hl, hd⟩ := hj
      exact ⟨none, _, run_endLoop hl (by simp [R]), hdone D _ (Nat.le_refl _) (hI.putObj _ hi (Nat.le_succ _) hl rfl) (keeps_put _ hd hDL)⟩
    · exact ⟨some c, _, run_endLoop hl (by simp [R]), hstop D c _ (Nat.le_refl _) ((hIx c).putObj (s := ()) _ hc (Nat.le_succ _) hl rfl) (keeps_put _ hd hDL)⟩
end
end Go.Proofs.YtplmmoaljlnbdaaGreat.Hd
end

section
/- More small laws for proofs by hand: append beyond the capacity; cells of a row that is read. -/
namespace Go.Proofs.YtplmmoaljlnbdaaGreat.Hd
open Go.RowKit Go.Shelf Go.Proofs.YtplmmoaljlnbdaaGreatW.PrintWords Go.Proofs.YtplmmoaljlnbdaaGreatW.PrintMore
set_option linter.unusedVariables false
set_option linter.unusedSimpArgs false

/-- All that is cells lies as it lay. -/
structure KeepsC (W W' : World) : Prop where
  size : W.heap.size ≤ W'.heap.size
  same : ∀ (k : Nat) (cs : Array Value) (t : TypeId) (f : Nat × Nat), W.heap[k]? = some (Obj.cells cs t f) → W'.heap[k]? = some (Obj.cells cs t f)
theorem KeepsC.refl (W : World) : KeepsC W W := ⟨Nat.le_refl _, fun _ _ _ _ h => h⟩
theorem KeepsC.trans {A B C : World} (h : KeepsC A B) (k : KeepsC B C) : KeepsC A C := ⟨Nat.le_trans h.size k.size, fun i cs t f e => k.same i cs t f (h.same i cs t f e)⟩
theorem KeepsC.of_below {W W' : World} (h : Below W.heap.size W W') : KeepsC W W' := ⟨h.size, fun k cs t f e => (h.block k (blk_lt e)).trans e⟩
theorem KeepsC.of_turn {W W' : World} {row : Option Nat} (hg : W.grownBy W' row) (hr : ∀ r, row = some r → ∃ o : Obj, W.heap[r]? = some o ∧ o.isCells = false) : KeepsC W W' :=
  ⟨hg.size, fun k cs t f e => (hg.block k (blk_lt e) (fun h => by
    obtain ⟨o, ho, hc⟩ := hr k h.symm
    rw [e] at ho
    cases ho
    cases hc)).trans e⟩
theorem KeepsC.putObj {W : World} {l : Nat} {o : Obj} (o' : Obj) (hl : W.heap[l]? = some o) (ho : o.isCells = false) : KeepsC W (W.putObj l o') := KeepsC.of_turn (grownBy_putObj' W l o') (fun r e => by cases e; exact ⟨o, hl, ho⟩)
theorem Boxed.keepsC {W W' : World} {B t : Nat} {v : Value} (h : Boxed W B t v) (k : KeepsC W W') : Boxed W' B t v := k.same _ _ _ _ h
theorem R_keepsC {α : Type} {d : Kd α} {e base : Nat} {ok : Nat → Prop} {W W' : World} {v : Value} {xs : List α} (h : d.R e W base ok v xs) (k : KeepsC W W') : d.R e W' base ok v xs :=
  Kd.R_mono (Kd.R_step (Kd.R_bound h) (fun i hi _ => by obtain ⟨_, _, _, q, _, cells, hc⟩ := hi; rw [hc]; exact k.same _ _ _ _ hc)) (fun _ hi => hi.1)
theorem ownFrom_keepsC {β : Type} (B : Nat) {I : β → World → Prop} (h : ∀ s W W', KeepsC W W' → I s W → I s W') : OwnFrom B I := fun s W W' row hs hg hr => h s W W' (KeepsC.of_turn hg (fun r e => (hr r e).2)) hs
theorem cell_keepsC {W W' : World} (k : KeepsC W W') {a : Addr} {v : Value} (h : W.cell? a = some v) : W'.cell? a = some v := by
  unfold World.cell? at h ⊢
  split at h
  · rename_i cs t f e
    rw [k.same _ _ _ _ e]
    exact h
  · cases h
theorem C_keepsC {α : Type} {enc : α → Value} (d : α) {h1 : ∀ x, (enc x).oneCell' = true} {W W' : World} {A : Option Addr} {n : Nat} {xs : List α} (h : (Kd.scalar enc h1).C W A n xs) (k : KeepsC W W') : (Kd.scalar enc h1).C W' A n xs := by
  refine Kd.C_of_reads (d := d) ?_
  have hr := Kd.reads_of_C (d := d) h
  exact ⟨hr.1, hr.2.1, fun hp => by obtain ⟨ad, e, hc⟩ := hr.2.2 hp; exact ⟨ad, e, fun j hj => cell_keepsC k (hc j hj)⟩⟩
theorem C_setBox {k : IntKind} {W : World} {A A' : Option Addr} {n n' c' B t : Nat} {xs : List Int} (h : Kd.C (Kd.int k) W A n xs) (hb : Boxed W B t (.slice A' n' c')) (u : Value) : Kd.C (Kd.int k) (W.setCell ⟨B, 0, none⟩ u) A n xs := by
  refine Kd.C_of_reads (d := 0) ?_
  have hr := Kd.reads_of_C (d := 0) h
  refine ⟨hr.1, hr.2.1, fun hp => ?_⟩
  obtain ⟨ad, e, hc⟩ := hr.2.2 hp
  refine ⟨ad, e, fun j hj => ?_⟩
  have h1 := hc j hj
  rw [cell_far (fun hB => ?_)]
  · exact h1
  · have h2 : W.heap[(ad.add j).block]? = some (Obj.cells #[.slice A' n' c'] t (0, 0)) := by rw [hB]; exact hb
    unfold World.cell? at h1
    rw [h2] at h1
    dsimp only at h1
    split at h1
    · cases h1
    · have h3 := Array.getElem?_eq_some_iff.1 h1
      obtain ⟨h4, h5⟩ := h3
      have h6 : (ad.add j).off = 0 := by simp at h4; omega
      simp [h6] at h5
theorem R_farB {α : Type} {d : Kd α} {e base : Nat} {ok : Nat → Prop} {W : World} {v : Value} {xs : List α} (h : d.R e W base ok v xs) {p : Addr} (hp : p.block < base) (u : Value) : d.R e (W.setCell p u) base ok v xs :=
  Kd.R_mono (Kd.R_far (Kd.R_bound h) (p := p) (fun k hk => by have := hk.2.1; omega) u) (fun _ hk => hk.1)
/-- What a loop's body keeps, from its round's start on: for the loop (kf), for the iterator (kp), and below n since the call began (bl). -/
structure Rnd (n B : Nat) (S : Nat → Prop) (w W W' : World) : Prop where
  kf : KeepsFrom B W W'
  kp : Kpt 0 S W W'
  bl : Below n w W'
theorem Rnd.start {n B : Nat} {S : Nat → Prop} {w W : World} (h : Below n w W) : Rnd n B S w W W := ⟨KeepsFrom.refl _ _, Kpt.refl _ _ _, h⟩
theorem Rnd.call {n B : Nat} {S : Nat → Prop} {w W W' W'' : World} (h : Rnd n B S w W W') (hn : n ≤ W.heap.size) (hS : ∀ k, S k → k < W.heap.size) (hb : Below W'.heap.size W' W'') : Rnd n B S w W W'' :=
  ⟨h.kf.trans (KeepsFrom.of_grownBy (grown_of_below hb none) (fun j e => by cases e)), h.kp.step (Nat.zero_le _) hS hb, below_then h.bl (Nat.le_trans hn h.kf.size) hb⟩
theorem Rnd.alloc {n B : Nat} {S : Nat → Prop} {w W W' : World} (h : Rnd n B S w W W') (hn : n ≤ W.heap.size) (hS : ∀ k, S k → k < W.heap.size) (o : Obj) : Rnd n B S w W (W'.alloc o) := h.call hn hS (below_alloc (Below.refl _ _) o)
theorem Rnd.store {n B : Nat} {S : Nat → Prop} {w W W' : World} (h : Rnd n B S w W W') {p : Addr} (hp : n ≤ p.block) (hS : ¬ S p.block) (u : Value) : Rnd n B S w W (W'.setCell p u) :=
  ⟨h.kf.trans ((KeepsOthers.setCell _ _ _).from _), ⟨h.kp.below.setCell (Nat.zero_le _) _, fun k hk => (Below.heap_setCell W' p u k (fun e => hS (e ▸ hk))).trans (h.kp.at_ k hk)⟩, h.bl.setCell hp _⟩
/-- What a round has left, whichever it said. -/
def YdOf (J : World → Prop) (Jx : World → Prop) (Kp : World → World → Prop) (W W' : World) (b : Bool) : Prop := (b = true → J W' ∧ Kp W W') ∧ (b = false → Jx W')
theorem yd_of {J : World → Prop} {Jx : World → Prop} {Kp : World → World → Prop} {W W' : World} {e : Ending} (h : (e = .returned (.bool true) ∧ J W' ∧ Kp W W') ∨ (e = .returned (.bool false) ∧ Jx W')) : ∃ b, e = .returned (.bool b) ∧ YdOf J Jx Kp W W' b := by
  rcases h with ⟨rfl, h⟩ | ⟨rfl, h⟩
  · exact ⟨true, rfl, (fun _ => h), (fun h => by cases h)⟩
  · exact ⟨false, rfl, (fun h => by cases h), (fun _ => h)⟩
theorem below_of_grown {W W' : World} (h : W.grownBy W' none) : Below W.heap.size W W' := ⟨h.os, h.tape, h.output, h.size, fun i hi => h.block i hi (by simp)⟩
theorem C_cells {k : IntKind} {w : World} {A : Option Addr} {n : Nat} {xs : List Int} (h : Kd.C (Kd.int k) w A n xs) (hn : n = xs.length) : ∀ ad, A = some ad → ∀ j u, (xs.map (Value.int k))[j]? = some u → w.cell? (ad.add j) = some u := by
  subst hn
  intro ad hA j u hu
  have hj : j < xs.length := by
    rw [List.getElem?_map] at hu
    cases e : xs[j]? with
    | none => rw [e] at hu; cases hu
    | some v => exact (List.getElem?_eq_some_iff.1 e).1
  obtain ⟨ad2, e2, hc⟩ := C_at h j hj
  rw [hA] at e2
  cases e2
  rw [List.getElem?_map, List.getElem?_eq_getElem hj] at hu
  simp only [Option.map_some, Option.some.injEq] at hu
  rw [hc, ← hu]
  simp [hj]
section
variable {P : Program} {ops : Array Oper} {rest : List Oper} {o : Oper} {a : Act} {Q : Exit → Act → World → Prop}
/-- append(v, l...) of whole numbers where v is full: a new row. -/
theorem append_grows_int {k : IntKind} {w : World} (hgd : o.guard = none) (s x : Operand) (t e : TypeId) (ho : o.op = .call { callee := .builtin .append, args := #[s, x], argTypes := #[t, t] }) (bytes : Nat)
    (ht : P.underlying t = some (.slice e)) (hinfo : (P.info? e).map (fun i => (i.zero, i.size, i.bytes)) = some (some (.int k 0), 1, bytes))
    (A : Option Addr) (n cap : Nat) (xs : List Int) (hs : a.eval s = .slice A n cap) (hnone : A = none → n = 0 ∧ cap = 0) (hA : Kd.C (Kd.int k) w A n xs) (hxn : n = xs.length)
    (B : Addr) (m c : Nat) (ys : List Int) (hx : a.eval x = .slice (some B) m c) (hB : Kd.C (Kd.int k) w (some B) m ys) (hym : m = ys.length)
    (hfull : cap < n + m) (hl : (n + m) * bytes ≤ 140737488355328) (hl2 : n + m ≤ 140737488355328)
    (hK : ∀ v' w', Kd.R (Kd.int k) e w' w.heap.size (fun _ => True) v' (xs ++ ys) → Below w.heap.size w w' → wpList P ops Q rest (a.put o.dst v') w') : wpList P ops Q (o :: rest) a w := by
  obtain ⟨i0, hi, hz0, hz1, hz2⟩ := info_parts hinfo
  refine wpList_append_grows w hgd s x t ho e i0 (.int k 0) 1 bytes ht hi hz0 hz1 hz2 rfl (by omega) A n cap (xs.map (Value.int k)) hs hnone (by simp; exact hxn.symm) (C_cells hA hxn) B m c (ys.map (Value.int k)) hx (by simp; exact hym.symm) (C_cells hB hym B rfl) (fun u hu => by obtain ⟨y, _, rfl⟩ := List.mem_map.1 hu; rfl) hfull (by unfold maxLen; omega) hl ?_
  intro v' w' hown hg
  refine hK v' w' (Kd.R_of_own (enc := Value.int k) (h1 := fun _ => rfl) ?_ (fun _ _ => trivial)) (below_of_grown hg)
  have e1 : encs (Value.int k) (xs ++ ys) = xs.map (Value.int k) ++ ys.map (Value.int k) := by simp [encs]
  rw [e1, List.length_append, ← hxn, ← hym]
  exact hown
/-- The same in a fenced walk. -/
theorem append_grows_intIn {F : Fence} {n₁ : Nat} {k : IntKind} {w : World} (hgd : o.guard = none) (s x : Operand) (t e : TypeId) (ho : o.op = .call { callee := .builtin .append, args := #[s, x], argTypes := #[t, t] }) (bytes : Nat)
    (ht : P.underlying t = some (.slice e)) (hinfo : (P.info? e).map (fun i => (i.zero, i.size, i.bytes)) = some (some (.int k 0), 1, bytes))
    (A : Addr) (n cap : Nat) (xs : List Int) (hs : a.eval s = .slice (some A) n cap) (hA : Kd.C (Kd.int k) w (some A) n xs) (hxn : n = xs.length)
    (B : Addr) (m c : Nat) (ys : List Int) (hx : a.eval x = .slice (some B) m c) (hB : Kd.C (Kd.int k) w (some B) m ys) (hym : m = ys.length)
    (hfull : cap < n + m) (hl : (n + m) * bytes ≤ 140737488355328) (hl2 : n + m ≤ 140737488355328)
    (hK : ∀ v' w', Kd.R (Kd.int k) e w' w.heap.size (fun _ => True) v' (xs ++ ys) → Below w.heap.size w w' → wpListIn F n₁ P ops Q rest (a.put o.dst v') w') : wpListIn F n₁ P ops Q (o :: rest) a w := by
  obtain ⟨i0, hi, hz0, hz1, hz2⟩ := info_parts hinfo
  obtain ⟨v', w', hrun, hown, hg⟩ := run_append_arg_grows (P := P) w t o.type e i0 (.int k 0) 1 bytes ht hi hz0 hz1 hz2 rfl (by omega) A n cap (xs.map (Value.int k)) (by simp; exact hxn.symm) (C_cells hA hxn A rfl) B m c (ys.map (Value.int k)) (by simp; exact hym.symm) (C_cells hB hym B rfl) hfull (by unfold maxLen; omega) hl
  refine event_runIn (v := v') (w1 := w') hgd (by simp [Oper.about, ho, resolve, Target.leads, Sem.run_pure]) (by rw [ho]; intro c hc'; cases hc') ?_ (hK v' w' (Kd.R_of_own (enc := Value.int k) (h1 := fun _ => rfl) ?_ (fun _ _ => trivial)) (below_of_grown hg))
  · simp [execOp, ho, resolve, invoke, builtin, hs, hx, hrun, Result.andThen]
  · have e1 : encs (Value.int k) (xs ++ ys) = xs.map (Value.int k) ++ ys.map (Value.int k) := by simp [encs]
    rw [e1, List.length_append, ← hxn, ← hym]
    exact hown
end
/-- Results in variables, in boxes, in structs' cells. -/
inductive Vals2 (P : Program) (tmps : Array Value) (w : World) : List ResultVar → List Value → Prop where
  | nil : Vals2 P tmps w [] []
  | tmp {u : Tmp} {rs : List ResultVar} {vs : List Value} (h : Vals2 P tmps w rs vs) : Vals2 P tmps w (.tmp u :: rs) (tmps.getD u undef :: vs)
  | cell {p : Tmp} {ty : TypeId} {rs : List ResultVar} {vs : List Value} (g : Nat) (t : TypeId) (cs : Array Value) (fr : Nat × Nat) (d : TypeDesc)
      (hp : tmps.getD p undef = .pointer (some ⟨g, 0, none⟩)) (hg : w.heap[g]? = some (.cells cs t fr))
      (hu : P.underlying ty = some d) (hd : (match d with | .struct _ | .array _ _ => true | _ => false) = true) (hi : (P.info? ty).map (·.size) = some cs.size)
      (h : Vals2 P tmps w rs vs) : Vals2 P tmps w (.cell p ty :: rs) (.agg cs :: vs)
  | box {p : Tmp} {ty : TypeId} {rs : List ResultVar} {vs : List Value} (a : Addr) (v : Value) (d : TypeDesc)
      (hp : tmps.getD p undef = .pointer (some a)) (hc : w.cell? a = some v)
      (hu : P.underlying ty = some d) (hd : (match d with | .struct _ | .array _ _ => false | _ => true) = true)
      (h : Vals2 P tmps w rs vs) : Vals2 P tmps w (.cell p ty :: rs) (v :: vs)
section
variable {P : Program} {tmps : Array Value} {w : World}
theorem vals2_run {rs : List ResultVar} {vs : List Value} (hv : Vals2 P tmps w rs vs) (f : ResultVar → Sem Value) (hf : ∀ u, f (.tmp u) = pure (tmps.getD u undef)) (hc : ∀ a t, f (.cell a t) = (do loadVar t (← asAddr (tmps.getD a undef)))) :
    (rs.mapM f).run P w = .ok vs w := by
  induction hv with
  | nil => simp
  | tmp h ih => simp [List.mapM_cons, hf, ih]
  | cell g t cs fr d hp hg hu hd hi h ih =>
    rw [List.mapM_cons, hc, hp]
    simp [asAddr, run_loadVar_row w g t _ cs fr d hg hu hd hi, ih]
  | box a v d hp hcell hu hd h ih =>
    rw [List.mapM_cons, hc, hp]
    simp [asAddr, run_loadVar_cell _ a v w d hu hd hcell, ih]
theorem results_list2 {fn : Func} {rs : List ResultVar} {vs : List Value} (h : fn.results = rs.toArray) (hl : vs.length ≠ 1) (hv : Vals2 P tmps w rs vs) : (results fn tmps).run P w = .ok (.tuple vs.toArray) w := by
  unfold results
  rw [h, List.mapM_toArray]
  simp only [Sem.run_bind, Sem.run_map]
  rw [vals2_run hv]
  · match vs, hl with
    | [], _ => simp
    | [v], hl => exact absurd rfl hl
    | u :: v :: vs, _ => simp
  · intro u; rfl
  · intro a t; rfl
end
end Go.Proofs.YtplmmoaljlnbdaaGreat.Hd
end

section
/- lap.both: the iterator over the sums of two lists. -/
namespace Go.Proofs.YtplmmoaljlnbdaaGreat.Hd
open Go.RowKit Go.Shelf Go.Proofs.YtplmmoaljlnbdaaGreatW.PrintWords Go.Proofs.YtplmmoaljlnbdaaGreatW.PrintMore
set_option linter.unusedVariables false
set_option linter.unusedSimpArgs false
attribute [local go_sem] Oper.semAt_some

theorem both_calls (a b : Value) (w : World) (ha : ∃ A n c, a = .slice A n c) (hb : ∃ A n c, b = .slice A n c) :
    Calls Tryz.prog 35 #[a, b] w fun e w' => e = .returned (.func (.func 62) #[] #[.pointer (some ⟨w.heap.size, 0, none⟩), .pointer (some ⟨w.heap.size + 1, 0, none⟩)]) ∧
      w' = (w.alloc (.cells #[a] 31)).alloc (.cells #[b] 31) := by
  obtain ⟨A, n, c, rfl⟩ := ha
  obtain ⟨A', n', c', rfl⟩ := hb
  go_enter Tryz.func35, Tryz.ntmps35
  go_wp2
  go_ret
  exact ⟨rfl, rfl⟩

def IntRep (x : Int) (args : Array Value) (W : World) : Prop := args = #[.int .i64 x]
theorem wrap_i64 (n : Int) : IntKind.i64.wrap n = wrap64 n := by
  unfold IntKind.wrap wrap64
  simp [IntKind.bits, IntKind.signed]
  split <;> omega
/-- The sums of two lists, as far as both go. -/
def bothOf (xs ys : List Int) : List Int := (List.range (min xs.length ys.length)).map fun i => wrap64 (xs.getD i 0 + ys.getD i 0)
/-- What a round keeps for it: two boxes, and two rows. -/
def BothKp (Ba Bb : Nat) (A B : Option Addr) (xs ys : List Int) (W W' : World) : Prop :=
  (∀ k, k = Ba ∨ k = Bb → W'.heap[k]? = W.heap[k]?) ∧ (Kd.C (Kd.int .i64) W A xs.length xs → Kd.C (Kd.int .i64) W' A xs.length xs) ∧ (Kd.C (Kd.int .i64) W B ys.length ys → Kd.C (Kd.int .i64) W' B ys.length ys)

set_option maxRecDepth 100000 in
set_option maxHeartbeats 2000000 in
theorem both_iter (Ba Bb : Nat) (A B : Option Addr) (ca cb : Nat) (xs ys : List Int) (w : World) (hx : xs.length ≤ 1048576) (hy : ys.length ≤ 1048576)
    (b0 : Boxed w Ba 31 (.slice A xs.length ca)) (b1 : Boxed w Bb 31 (.slice B ys.length cb)) (hA : Kd.C (Kd.int .i64) w A xs.length xs) (hB : Kd.C (Kd.int .i64) w B ys.length ys) :
    IterAt Fence.wide 9 Tryz.prog 62 #[.pointer (some ⟨Ba, 0, none⟩), .pointer (some ⟨Bb, 0, none⟩)] IntRep (fun A B => Below A.heap.size A B) (BothKp Ba Bb A B xs ys) (bothOf xs ys) w := by
  intro l J Jx W hW hJ hJx hY h0
  have HJ := Aside0.mk hJ
  have HY := Aside0.mk hY
  have B0 := Aside0.mk (Boxed.keepsC b0 (KeepsC.of_below hW))
  have B1 := Aside0.mk (Boxed.keepsC b1 (KeepsC.of_below hW))
  have HA := Aside0.mk (Kd.C_below hA hW)
  have HB := Aside0.mk (Kd.C_below hB hW)
  have H0 := Aside0.mk h0
  clear hJ hJx hY b0 b1 hA hB h0 hW
  simp only [List.push_toArray, List.append_toArray, List.nil_append, List.cons_append]
  refine callsIn_of_wp Tryz.func62 rfl trivial ?_ rfl
  simp only [Tryz.ntmps62, List.size_toArray, List.length_cons, List.length_nil, Nat.reduceAdd, Nat.reduceSub, Array.replicate_succ, Array.replicate_zero, List.push_toArray, List.append_toArray, List.nil_append, List.cons_append]
  gi_wp2
  gi_loopw [4] (fun i wr => ∃ k : Nat, i = .int .i64 (k : Int) ∧ k ≤ (bothOf xs ys).length ∧ Aside0 (J k wr) ∧ Aside0 (Boxed wr Ba 31 (.slice A xs.length ca) ∧ Boxed wr Bb 31 (.slice B ys.length cb)) ∧ Aside0 (Kd.C (Kd.int .i64) wr A xs.length xs) ∧ Aside0 (Kd.C (Kd.int .i64) wr B ys.length ys))
    (fun i _ => (bothOf xs ys).length - (intOf i).toNat)
  case atStart => exact ⟨0, rfl, Nat.zero_le _, H0, ⟨B0.out, B1.out⟩, HA, HB⟩
  case round =>
    clear B0 B1 HA HB H0
    obtain ⟨k, rfl, hk, HJk, HBx, HA, HB⟩ := hrel
    have ea := HBx.out.1.cell
    have eb := HBx.out.2.cell
    have hbl : (bothOf xs ys).length = min xs.length ys.length := by simp [bothOf]
    have HBL := Aside0.mk hbl
    by_cases hlx : k < xs.length
    · by_cases hly : k < ys.length
      · have hkl : k < (bothOf xs ys).length := by omega
        have hel : (bothOf xs ys)[k] = wrap64 (xs[k] + ys[k]) := by simp [bothOf, hlx, hly]
        obtain ⟨ad, rfl, hca⟩ := C_at HA.out k hlx
        obtain ⟨bd, rfl, hcb⟩ := C_at HB.out k hly
        have e1 : xs.getD k 0 = xs[k] := by simp [hlx]
        have e2 : ys.getD k 0 = ys[k] := by simp [hly]
        rw [e1] at hca
        rw [e2] at hcb
        have HEL := Aside0.mk hel
        have hq1 : decide ((k : Int) < (xs.length : Int)) = true := by simp; omega
        have hq2 : decide ((k : Int) < (ys.length : Int)) = true := by simp; omega
        clear hel hbl e1 e2
        have hmx : Tryz.prog.follows .mixedOrders = true := by kernel_rfl
        have hwr : IntKind.i64.wrap (xs[k] + ys[k]) = wrap64 (xs[k] + ys[k]) := wrap_i64 _
        obtain ⟨fn, tmps, assign, body, hy, hR⟩ := HY.out k #[.int .i64 (IntKind.i64.wrap (xs[k] + ys[k]))] wr.drew hkl (HJ.out k _ _ HJk.out (below_drew (Below.refl _ _))) (by rw [HEL.out, hwr]; rfl)
        clear hwr
        gi_wp2
        gi_region_with_o (refine hR.mono ?_; intro e W3 h3; obtain ⟨b, rfl, hb⟩ := yd_of h3; clear h3; have HBb := Aside0.mk hb; clear hb)
        all_goals
          clear hy hR
          cases b
          · gi_wp2
            go_end0
            exact ⟨⟨_, rfl⟩, .inr (HBb.out.2 rfl)⟩
          · obtain ⟨hJ3, hk1, hk2, hk3⟩ := HBb.out.1 rfl
            gi_wp2
            refine ⟨⟨k + 1, by simp, hkl, ⟨hJ3⟩, ⟨(hk1 Ba (.inl rfl)).trans HBx.out.1, (hk1 Bb (.inr rfl)).trans HBx.out.2⟩, ⟨hk2 (Kd.C_drewN HA.out 1)⟩, ⟨hk3 (Kd.C_drewN HB.out 1)⟩⟩, by simp [intOf]; omega⟩
      · have hq1 : decide ((k : Int) < (xs.length : Int)) = true := by simp; omega
        have hq2 : decide ((k : Int) < (ys.length : Int)) = false := by simp; omega
        have HKL := Aside0.mk (show k = (bothOf xs ys).length by omega)
        have hq3 : decide (k < xs.length) = true := by simp; omega
        have hq4 : decide (k < ys.length) = false := by simp; omega
        clear hbl
        gi_wp2
        refine wpIn_region_quiet_lit rfl (by kernel_rfl) (by kernel_rfl) ?_
        repeat (gi_big_quiet_step (fail))
        refine BigFrame.wpQuietIn_skip (fun _ _ _ _ => trivial) rfl ?_
        simp only [Act.put, List.setIfInBounds_toArray, List.set_cons_succ, List.set_cons_zero]
        repeat (gi_big_quiet_step (fail))
        refine wpQuietIn_nil ?_
        intro _ hw'
        obtain ⟨nq, rfl⟩ := hw'
        gi_wp2
        go_end0
        exact ⟨⟨_, rfl⟩, .inl (by rw [← HKL.out]; exact HJ.out k _ _ HJk.out (pw_below_drewN (Below.refl _ _) _))⟩
    · have hq1 : decide ((k : Int) < (xs.length : Int)) = false := by simp; omega
      have HKL := Aside0.mk (show k = (bothOf xs ys).length by omega)
      have hq3 : decide (k < xs.length) = false := by simp; omega
      clear hbl
      gi_wp2
      refine wpIn_region_quiet_lit rfl (by kernel_rfl) (by kernel_rfl) ?_
      repeat (gi_big_quiet_step (fail))
      refine BigFrame.wpQuietIn_skip (fun _ _ _ _ => trivial) rfl ?_
      simp only [Act.put, List.setIfInBounds_toArray, List.set_cons_succ, List.set_cons_zero]
      repeat (gi_big_quiet_step (fail))
      refine wpQuietIn_nil ?_
      intro _ hw'
      obtain ⟨nq, rfl⟩ := hw'
      gi_wp2
      go_end0
      exact ⟨⟨_, rfl⟩, .inl (by rw [← HKL.out]; exact HJ.out k _ _ HJk.out (pw_below_drewN (Below.refl _ _) _))⟩
end Go.Proofs.YtplmmoaljlnbdaaGreat.Hd
end

section
/- fix.root at ints, whatever the function; fix.Sqrt, fix.Cbrt. -/
namespace Go.Proofs.YtplmmoaljlnbdaaGreat.Hd
open Go.RowKit Go.Shelf Go.Proofs.YtplmmoaljlnbdaaGreatW.PrintWords Go.Proofs.YtplmmoaljlnbdaaGreatW.PrintMore
set_option linter.unusedVariables false
set_option linter.unusedSimpArgs false

/-- Bit by bit, from the highest on: kept where it is not too great. -/
def rootGo (great : Int → Bool) : Nat → Int → Int
  | 0, r => r
  | i + 1, r => if great (r + 2 ^ i) then rootGo great i r else rootGo great i (r + 2 ^ i)

theorem wraps_i64 (n : Int) (h₀ : 0 ≤ n) (h₁ : n < 2 ^ 62) : IntKind.i64.wrap n = n := by rw [IntKind.wrap_i64]; omega
theorem wrap_two (k : Nat) (hk : k < 62) : wrap64 (2 ^ k) = 2 ^ k := by
  have h1 : (0 : Int) ≤ 2 ^ k := Int.le_of_lt (Int.pow_pos (by omega))
  have h2 : (2 : Int) ^ k < 2 ^ 62 := by
    have h : 2 ^ k < 2 ^ 62 := Nat.pow_lt_pow_right (by omega) hk
    exact_mod_cast h
  have := wraps_i64 (2 ^ k) h1 h2
  rw [IntKind.wrap_i64] at this
  unfold wrap64
  exact this
theorem or_two (k bits : Nat) (hk : k + 1 ≤ bits) (hb : bits ≤ 62) (x : Int) (m : Nat) (hx : x = 2 ^ (k + 1) * m) (hm : 2 ^ (k + 1) * (m + 1) ≤ 2 ^ bits) : Go.bits .or .i64 x (2 ^ k) = x + 2 ^ k := by
  have e1 : (2 : Nat) ^ (k + 1) = 2 ^ k * 2 := Nat.pow_succ _ _
  have p1 : 0 < 2 ^ k := Nat.two_pow_pos k
  have p2 : 2 ^ bits ≤ 2 ^ 62 := Nat.pow_le_pow_right (by omega) hb
  have c1 : ((2 ^ (k + 1) * m : Nat) : Int) = x := by rw [hx]; simp
  have e2 : 2 ^ (k + 1) * (m + 1) = 2 ^ (k + 1) * m + 2 ^ (k + 1) := by rw [Nat.mul_add, Nat.mul_one]
  refine bits_join .i64 62 (by decide) wraps_i64 (k + 1) x (2 ^ k) ?_ ?_ ?_ ?_ ?_ ?_
  · rw [← c1]; exact Int.natCast_nonneg _
  · rw [hx]; exact Int.mul_emod_right _ _
  · rw [← c1]; have : 2 ^ (k + 1) * m < 2 ^ 62 := by omega
    exact_mod_cast this
  · exact Int.le_of_lt (Int.pow_pos (by omega))
  · have : 2 ^ k < 2 ^ (k + 1) := by omega
    exact_mod_cast this
  · have : 2 ^ k < 2 ^ 62 := by omega
    exact_mod_cast this

set_option maxRecDepth 100000 in
set_option maxHeartbeats 1000000 in
theorem root_calls (g : Nat) (caps : Array Value) (eg : ∀ args w, (callFunc g args).run Tryz.prog w = .ok (.enter g args) w) (p : Int → Bool) (bits : Nat) (hbits : bits ≤ 62) (w : World)
    (hp : ∀ W x, 0 < x → x < 2 ^ bits → Below w.heap.size w W → Calls Tryz.prog g (#[.int .i64 x] ++ caps) W fun e W' => e = .returned (.bool (p x)) ∧ Below W.heap.size W W') :
    Calls Tryz.prog 144 #[.int .i64 (bits : Int), .func (.func g) #[] caps] w fun e w' => e = .returned (.int .i64 (rootGo p bits 0)) ∧ Below w.heap.size w w' := by
  have hwrap : ∀ k : Nat, k < 62 → wrap64 (2 ^ k) = 2 ^ k := wrap_two
  go_enter Tryz.func144, Tryz.ntmps144
  go_wp2
  go_loopw [4, 5] (fun r i wr => ∃ (k : Nat) (x y : Int) (m : Nat), r = .int .i64 x ∧ i = .int .i64 y ∧ y + 1 ≤ k ∧ k ≤ y + 1 ∧ k ≤ bits ∧ Aside0 (x = 2 ^ k * m ∧ 2 ^ k * (m + 1) ≤ 2 ^ bits) ∧ Aside0 (rootGo p bits 0 = rootGo p k x) ∧ Aside0 (Below w.heap.size w wr))
    (fun _ i _ => (intOf i + 1).toNat)
  case atStart => exact ⟨bits, 0, (bits : Int) - 1, 0, rfl, by trivial, by omega, by omega, by omega, ⟨by simp, by simp⟩, ⟨rfl⟩, ⟨Below.refl _ _⟩⟩
  case round =>
    obtain ⟨k, x, y, m, rfl, rfl, h1, h2, h3, HM, HR, HB⟩ := hrel
    cases k with
    | zero =>
      have h4 : y < 0 := by omega
      go_wp2
      go_ret
      exact ⟨by rw [HR.out]; rfl, HB.out⟩
    | succ k =>
      obtain rfl : y = (k : Int) := by omega
      have hk : k < 62 := by omega
      have hw := hwrap k hk
      have ho := or_two k bits h3 hbits x m HM.out.1 HM.out.2
      have HN : Aside0 ((0 < x + 2 ^ k ∧ x + 2 ^ k < 2 ^ bits) ∧ (x = 2 ^ k * ((2 * m : Nat) : Int) ∧ 2 ^ k * (2 * m + 1) ≤ 2 ^ bits) ∧ (x + 2 ^ k = 2 ^ k * ((2 * m + 1 : Nat) : Int) ∧ 2 ^ k * (2 * m + 1 + 1) ≤ 2 ^ bits)) := by
        obtain ⟨hx, hm⟩ := HM.out
        have e1 : (2 : Nat) ^ (k + 1) = 2 ^ k * 2 := Nat.pow_succ _ _
        have p1 : 0 < 2 ^ k := Nat.two_pow_pos k
        have c1 : x = ((2 ^ k * (2 * m) : Nat) : Int) := by rw [hx, Int.pow_succ]; simp [Int.mul_assoc]
        have e2 : 2 ^ k * (2 * m + 1) = 2 ^ k * (2 * m) + 2 ^ k := by rw [Nat.mul_add, Nat.mul_one]
        have e3 : 2 ^ k * (2 * m + 1 + 1) = 2 ^ k * (2 * m) + 2 ^ k + 2 ^ k := by rw [Nat.mul_add, e2, Nat.mul_one]
        have e4 : 2 ^ (k + 1) * (m + 1) = 2 ^ k * (2 * m) + 2 ^ k + 2 ^ k := by rw [e1, Nat.mul_assoc, ← e3]; congr 1
        have c2 : x + 2 ^ k = ((2 ^ k * (2 * m) + 2 ^ k : Nat) : Int) := by rw [c1]; simp
        have c3 : (2 : Int) ^ bits = ((2 ^ bits : Nat) : Int) := by simp
        refine ⟨⟨⟨?_, ?_⟩, ⟨?_, by omega⟩, ?_, by omega⟩⟩
        · rw [c2]; exact_mod_cast (by omega : 0 < 2 ^ k * (2 * m) + 2 ^ k)
        · rw [c2, c3]; exact_mod_cast (by omega : 2 ^ k * (2 * m) + 2 ^ k < 2 ^ bits)
        · rw [c1]; simp
        · rw [c2, ← e2]; simp
      go_wp2
      refine (hp wr _ HN.out.1.1 HN.out.1.2 HB.out).mono ?_
      rintro e W2 ⟨rfl, hb⟩
      have HB2 := Aside0.mk (below_then HB.out HB.out.size hb)
      clear hb
      cases hpx : p (x + 2 ^ k)
      · go_wp2
        go_roundw
        case rel => exact ⟨k, _, (k : Int) - 1, 2 * m + 1, rfl, by trivial, by omega, by omega, by omega, ⟨HN.out.2.2⟩, ⟨by rw [HR.out]; simp [rootGo, hpx]⟩, HB2⟩
        case measure => simp [intOf]
      · go_wp2
        go_roundw
        case rel => exact ⟨k, _, (k : Int) - 1, 2 * m, rfl, by trivial, by omega, by omega, by omega, ⟨HN.out.2.1⟩, ⟨by rw [HR.out]; simp [rootGo, hpx]⟩, HB2⟩
        case measure => simp [intOf]

def tooSqrt (n x : Int) : Bool := if n < wrap64 (x * x) then true else decide (2147483649 ≤ x)
def tooCbrt (n x : Int) : Bool := if n < wrap64 (wrap64 (x * x) * x) then true else decide (4611686018427387904 / x < wrap64 (x * x))

set_option maxHeartbeats 1000000 in
theorem sqrt1_calls (n x : Int) (B : Nat) (w : World) (hc : w.cell? ⟨B, 0, none⟩ = some (.int .i64 n)) :
    Calls Tryz.prog 145 #[.int .i64 x, .pointer (some ⟨B, 0, none⟩)] w fun e w' => e = .returned (.bool (tooSqrt n x)) ∧ Below w.heap.size w w' := by
  go_enter Tryz.func145, Tryz.ntmps145
  by_cases h : n < wrap64 (x * x)
  · go_wp2
    go_ret
    exact ⟨by simp [tooSqrt, h], Below.refl _ _⟩
  · go_wp2
    go_ret
    exact ⟨congrArg (fun b => Ending.returned (Value.bool b)) (by simp [tooSqrt, h]; omega), Below.refl _ _⟩

def fix_Sqrt.f (a0 : Int) : Option (Int × Int) := if a0 < 0 then some (0, 2) else if 4611686018427387904 < a0 then some (0, 2) else some (rootGo (tooSqrt a0) 32 0, 0)
set_option maxRecDepth 100000 in
set_option maxHeartbeats 1000000 in
theorem fix_Sqrt.calls (a0 r1 r2 : Int) (w : World) (h : fix_Sqrt.f a0 = some (r1, r2)) :
    Calls Tryz.prog 92 #[.int .i64 a0] w fun e w' => e = .returned (.tuple #[.int .i64 r1, .int .i64 r2]) ∧ Below w.heap.size w w' := by
  unfold fix_Sqrt.f at h
  have b0 := Boxed.new w 3 (.int .i64 a0)
  by_cases h1 : a0 < 0
  · rw [if_pos h1] at h
    simp only [Option.some.injEq, Prod.mk.injEq] at h
    obtain ⟨rfl, rfl⟩ := h
    go_enter Tryz.func92, Tryz.ntmps92
    go_wp2
    go_ret2
    exact ⟨rfl, (Below.refl _ _).alloc (Nat.le_refl _) _⟩
  · rw [if_neg h1] at h
    by_cases h2 : 4611686018427387904 < a0
    · rw [if_pos h2] at h
      simp only [Option.some.injEq, Prod.mk.injEq] at h
      obtain ⟨rfl, rfl⟩ := h
      go_enter Tryz.func92, Tryz.ntmps92
      go_wp2
      go_ret2
      exact ⟨rfl, (Below.refl _ _).alloc (Nat.le_refl _) _⟩
    · rw [if_neg h2] at h
      simp only [Option.some.injEq, Prod.mk.injEq] at h
      obtain ⟨rfl, rfl⟩ := h
      go_enter Tryz.func92, Tryz.ntmps92
      have hr := root_calls 145 #[.pointer (some ⟨w.heap.size, 0, none⟩)] (enters_of Tryz.func145 (by kernel_rfl) rfl) (tooSqrt a0) 32 (by omega) (w.alloc (.cells #[.int .i64 a0] 3))
        (fun W x _ _ hW => sqrt1_calls a0 x w.heap.size W ((hW.cell (p := ⟨w.heap.size, 0, none⟩) (by simp)).trans b0.cell))
      go_wp2_with (go_at_call 144; go_must (refine hr.mono ?_; rintro e w2 ⟨rfl, hb⟩); have HB := Aside0.mk hb; clear hb)
      go_ret2
      exact ⟨rfl, ((Below.refl _ _).alloc (Nat.le_refl _) _).trans (HB.out.mono (by simp))⟩
set_option maxHeartbeats 1000000 in
theorem cbrt1_calls (n x : Int) (B : Nat) (w : World) (hx : 0 < x) (hc : w.cell? ⟨B, 0, none⟩ = some (.int .i64 n)) :
    Calls Tryz.prog 233 #[.int .i64 x, .pointer (some ⟨B, 0, none⟩)] w fun e w' => e = .returned (.bool (tooCbrt n x)) ∧ Below w.heap.size w w' := by
  have hx0 : x ≠ 0 := by omega
  go_enter Tryz.func233, Tryz.ntmps233
  by_cases h : n < wrap64 (wrap64 (x * x) * x)
  · go_wp2
    go_ret
    exact ⟨by simp [tooCbrt, h], Below.refl _ _⟩
  · go_wp2
    go_ret
    exact ⟨congrArg (fun b => Ending.returned (Value.bool b)) (by simp [tooCbrt, h]; omega), Below.refl _ _⟩

def fix_Cbrt.f (a0 : Int) : Option (Int × Int) := if a0 < 0 then some (0, 2) else if 4611686018427387904 < a0 then some (0, 2) else some (rootGo (tooCbrt a0) 21 0, 0)
set_option maxRecDepth 100000 in
set_option maxHeartbeats 1000000 in
theorem fix_Cbrt.calls (a0 r1 r2 : Int) (w : World) (h : fix_Cbrt.f a0 = some (r1, r2)) :
    Calls Tryz.prog 178 #[.int .i64 a0] w fun e w' => e = .returned (.tuple #[.int .i64 r1, .int .i64 r2]) ∧ Below w.heap.size w w' := by
  unfold fix_Cbrt.f at h
  have b0 := Boxed.new w 3 (.int .i64 a0)
  by_cases h1 : a0 < 0
  · rw [if_pos h1] at h
    simp only [Option.some.injEq, Prod.mk.injEq] at h
    obtain ⟨rfl, rfl⟩ := h
    go_enter Tryz.func178, Tryz.ntmps178
    go_wp2
    go_ret2
    exact ⟨rfl, (Below.refl _ _).alloc (Nat.le_refl _) _⟩
  · rw [if_neg h1] at h
    by_cases h2 : 4611686018427387904 < a0
    · rw [if_pos h2] at h
      simp only [Option.some.injEq, Prod.mk.injEq] at h
      obtain ⟨rfl, rfl⟩ := h
      go_enter Tryz.func178, Tryz.ntmps178
      go_wp2
      go_ret2
      exact ⟨rfl, (Below.refl _ _).alloc (Nat.le_refl _) _⟩
    · rw [if_neg h2] at h
      simp only [Option.some.injEq, Prod.mk.injEq] at h
      obtain ⟨rfl, rfl⟩ := h
      go_enter Tryz.func178, Tryz.ntmps178
      have hr := root_calls 233 #[.pointer (some ⟨w.heap.size, 0, none⟩)] (enters_of Tryz.func233 (by kernel_rfl) rfl) (tooCbrt a0) 21 (by omega) (w.alloc (.cells #[.int .i64 a0] 3))
        (fun W x hx0 _ hW => cbrt1_calls a0 x w.heap.size W hx0 ((hW.cell (p := ⟨w.heap.size, 0, none⟩) (by simp)).trans b0.cell))
      go_wp2_with (go_at_call 144; go_must (refine hr.mono ?_; rintro e w2 ⟨rfl, hb⟩); have HB := Aside0.mk hb; clear hb)
      go_ret2
      exact ⟨rfl, ((Below.refl _ _).alloc (Nat.le_refl _) _).trans (HB.out.mono (by simp))⟩
end Go.Proofs.YtplmmoaljlnbdaaGreat.Hd
end

section
/- window.over. -/
namespace Go.Proofs.YtplmmoaljlnbdaaGreat.Hd
open Go.RowKit Go.Shelf Go.Proofs.YtplmmoaljlnbdaaGreatW.PrintWords Go.Proofs.YtplmmoaljlnbdaaGreatW.PrintMore
set_option linter.unusedVariables false
set_option linter.unusedSimpArgs false

def overGo (b : Int) : Nat → Int → Int → Int
  | 0, _, q => q
  | k + 1, n, q => if wrap64 (n * 2) < b then overGo b k (wrap64 (n * 2)) (Go.bits .or .i64 (wrap64 (q * 2)) 0) else overGo b k (wrap64 (wrap64 (n * 2) - b)) (Go.bits .or .i64 (wrap64 (q * 2)) 1)
def window_over.f (a0 a1 : Int) : Option Int := some (overGo a1 44 a0 0)

set_option maxRecDepth 100000 in
set_option maxHeartbeats 1000000 in
theorem window_over.calls (a0 a1 r : Int) (w : World) (h : window_over.f a0 a1 = some r) :
    Calls Tryz.prog 275 #[.int .i64 a0, .int .i64 a1] w fun e w' => e = .returned (.int .i64 r) ∧ Below w.heap.size w w' := by
  unfold window_over.f at h
  simp only [Option.some.injEq] at h
  subst h
  have b0 := (Boxed.new w 3 (.int .i64 a0)).alloc (.cells #[.int .i64 a1] 3)
  have b1 := Boxed.new (w.alloc (.cells #[.int .i64 a0] 3)) 3 (.int .i64 a1)
  rw [World.size_alloc] at b1
  have hB : Below w.heap.size w ((w.alloc (.cells #[.int .i64 a0] 3)).alloc (.cells #[.int .i64 a1] 3)) := ((Below.refl _ _).alloc (Nat.le_refl _) _).alloc (by simp) _
  go_enter Tryz.func275, Tryz.ntmps275
  go_wp2
  go_loopw [4, 7] (fun q i wr => ∃ (k : Nat) (n x : Int), q = .int .i64 x ∧ i = .int .i64 (44 - (k : Int)) ∧ k ≤ 44 ∧ Aside0 (overGo a1 44 a0 0 = overGo a1 k n x) ∧ Boxed wr w.heap.size 3 (.int .i64 n) ∧ Boxed wr (w.heap.size + 1) 3 (.int .i64 a1) ∧ Aside0 (Below w.heap.size w wr))
    (fun _ i _ => 44 - (intOf i).toNat)
  case atStart => exact ⟨44, a0, 0, rfl, rfl, Nat.le_refl _, ⟨rfl⟩, b0, b1, ⟨hB⟩⟩
  case round =>
    clear b0 b1 hB
    obtain ⟨k, n, x, rfl, rfl, hk, HR, b0, b1, HB⟩ := hrel
    have c0 := b0.cell
    have c1 := b1.cell
    have f0 := b0.frozen
    cases k with
    | zero =>
      go_wp2
      go_ret
      exact ⟨by rw [HR.out]; rfl, HB.out⟩
    | succ k =>
      have b0' := b0.set (.int .i64 (wrap64 (n * 2)))
      have b1' := b1.other (B' := w.heap.size) (by omega) (.int .i64 (wrap64 (n * 2)))
      have d0 := b0'.cell
      have d1 := b1'.cell
      have g0 := b0'.frozen
      by_cases hlt : wrap64 (n * 2) < a1
      · go_wp2
        refine ⟨⟨k, wrap64 (n * 2), _, rfl, congrArg (Value.int .i64) (by omega), by omega, ⟨by rw [HR.out]; simp only [overGo]; rw [if_pos hlt]⟩, b0', b1', ⟨HB.out.setCell (p := ⟨w.heap.size, 0, none⟩) (Nat.le_refl _) _⟩⟩, by simp [intOf]; omega⟩
      · have b0'' := b0'.set (.int .i64 (wrap64 (wrap64 (n * 2) - a1)))
        have b1'' := b1'.other (B' := w.heap.size) (by omega) (.int .i64 (wrap64 (wrap64 (n * 2) - a1)))
        go_wp2
        refine ⟨⟨k, wrap64 (wrap64 (n * 2) - a1), _, rfl, congrArg (Value.int .i64) (by omega), by omega, ⟨by rw [HR.out]; simp only [overGo]; rw [if_neg hlt]⟩, ?_, ?_, ⟨?_⟩⟩, by simp [intOf]; omega⟩
        · exact b0''
        · exact b1''
        · exact (HB.out.setCell (p := ⟨w.heap.size, 0, none⟩) (Nat.le_refl _) _).setCell (p := ⟨w.heap.size, 0, none⟩) (Nat.le_refl _) _
end Go.Proofs.YtplmmoaljlnbdaaGreat.Hd
end

section
/- slices.IndexFunc and slices.ContainsFunc at ints, whatever the function. -/
namespace Go.Proofs.YtplmmoaljlnbdaaGreat.Hd
open Go.RowKit Go.Shelf Go.Proofs.YtplmmoaljlnbdaaGreatW.PrintWords Go.Proofs.YtplmmoaljlnbdaaGreatW.PrintMore
set_option linter.unusedVariables false
set_option linter.unusedSimpArgs false

/-- Where the first one lies; below 0: nowhere. -/
def firstOf {α : Type} (p : α → Bool) : List α → Int
  | [] => -1
  | x :: l => if p x then 0 else (if firstOf p l < 0 then -1 else firstOf p l + 1)

set_option maxRecDepth 100000 in
set_option maxHeartbeats 1000000 in
theorem indexFunc_calls (g : Nat) (caps : Array Value) (eg : ∀ args w, (callFunc g args).run Tryz.prog w = .ok (.enter g args) w) (p : Int → Bool) (A : Option Addr) (c : Nat) (l : List Int) (w : World)
    (hr : Kd.C (Kd.int .i64) w A l.length l) (hl : l.length ≤ 140737488355328)
    (hp : ∀ W, ∀ x ∈ l, Below w.heap.size w W → Calls Tryz.prog g (#[.int .i64 x] ++ caps) W fun e W' => e = .returned (.bool (p x)) ∧ Below W.heap.size W W') :
    Calls Tryz.prog 85 #[.slice A l.length c, .func (.func g) #[] caps] w fun e w' => (∃ r : Int, e = .returned (.int .i64 r) ∧ (decide (0 ≤ r) = l.any p)) ∧ Below w.heap.size w w' := by
  have HR := Aside0.mk hr
  clear hr
  go_enter Tryz.func85, Tryz.ntmps85
  go_wp2
  go_loopw [8] (fun i wr => ∃ k : Nat, i = .int .i64 (k : Int) ∧ k ≤ l.length ∧ Aside0 ((l.take k).any p = false) ∧ Aside0 (Below w.heap.size w wr))
    (fun i _ => l.length - (intOf i).toNat)
  case atStart => exact ⟨0, rfl, Nat.zero_le _, ⟨by simp⟩, ⟨Below.refl _ _⟩⟩
  case round =>
    obtain ⟨k, rfl, hk, HF, HB⟩ := hrel
    by_cases hlt : k < l.length
    · obtain ⟨ad, rfl, hcell⟩ := C_at (Kd.C_below HR.out HB.out) k hlt
      have hx : l.getD k 0 = l[k] := by simp [hlt]
      rw [hx] at hcell
      have hm : l[k] ∈ l := List.getElem_mem hlt
      go_wp2
      refine (hp _ _ hm HB.out).mono ?_
      rintro e W2 ⟨rfl, hb⟩
      have HB2 := Aside0.mk (below_then HB.out HB.out.size hb)
      clear hb
      cases hpx : p l[k]
      · go_wp2
        go_roundw
        case rel => exact ⟨k + 1, rfl, by omega, ⟨by rw [List.take_succ_eq_append_getElem hlt, List.any_append, HF.out]; simp [hpx]⟩, HB2⟩
        case measure => simp [intOf]; omega
      · go_wp2
        go_ret
        exact ⟨⟨k, rfl, by have h1 : l.any p = true := List.any_eq_true.2 ⟨_, hm, hpx⟩; rw [h1]; simp⟩, HB2.out⟩
    · have hkl : k = l.length := by omega
      subst hkl
      go_wp2
      go_ret
      exact ⟨⟨-1, rfl, by have := HF.out; simp at this; simpa using this⟩, HB.out⟩

theorem containsFunc_calls (g : Nat) (caps : Array Value) (eg : ∀ args w, (callFunc g args).run Tryz.prog w = .ok (.enter g args) w) (p : Int → Bool) (A : Option Addr) (c : Nat) (l : List Int) (w : World)
    (hr : Kd.C (Kd.int .i64) w A l.length l) (hl : l.length ≤ 140737488355328)
    (hp : ∀ W, ∀ x ∈ l, Below w.heap.size w W → Calls Tryz.prog g (#[.int .i64 x] ++ caps) W fun e W' => e = .returned (.bool (p x)) ∧ Below W.heap.size W W') :
    Calls Tryz.prog 48 #[.slice A l.length c, .func (.func g) #[] caps] w fun e w' => e = .returned (.bool (l.any p)) ∧ Below w.heap.size w w' := by
  go_enter Tryz.func48, Tryz.ntmps48
  go_wp2_with (go_at_call 85; refine (indexFunc_calls g caps eg p A c l w hr hl hp).mono ?_; rintro e w' ⟨⟨r, rfl, hr'⟩, hb⟩; have HE := Aside0.mk hr'; have HB := Aside0.mk hb; clear hr' hb)
  go_ret
  exact ⟨congrArg (fun b => Ending.returned (Value.bool b)) HE.out, HB.out⟩

theorem lapFar_calls (x : Int) (w : World) : Calls Tryz.prog 47 #[.int .i64 x] w fun e w' => e = .returned (.bool (decide (x < -1099511627776 ∨ 1099511627776 < x))) ∧ Below w.heap.size w w' := by
  go_enter Tryz.func47, Tryz.ntmps47
  by_cases h : x < -1099511627776
  · go_wp2
    go_ret
    exact ⟨by simp [h], Below.refl _ _⟩
  · go_wp2
    go_ret
    exact ⟨congrArg (fun b => Ending.returned (Value.bool b)) (by simp; omega), Below.refl _ _⟩
end Go.Proofs.YtplmmoaljlnbdaaGreat.Hd
end
