/- Laws of the walk for arrays that are variables: made, stored whole, read at an index; the world behind is a letter. -/
import Derived.Test.YtpllmkcbkdahbaaShA
import Derived.Laws.Tables
import Derived.Deep.WholeRow
namespace Go.Proofs.Ytpllmkcbkdahbaa.Sha
open Go.RowKit Go.Proofs.YtpllmkcbkdahbaaW.PrintWords Go.Proofs.YtpllmkcbkdahbaaW.PrintLast Go.Proofs.YtpllmkcbkdahbaaW.PrintMore
set_option linter.unusedVariables false
set_option linter.unusedSimpArgs false

/-- Block g alone has turned: it is o now. -/
structure Upd (w w1 : World) (g : Nat) (o : Obj) : Prop where
  os : w1.os = w.os
  tape : w1.tape = w.tape
  output : w1.output = w.output
  size : w1.heap.size = w.heap.size
  at_ : w1.heap[g]? = some o
  rest : ∀ k, k ≠ g → w1.heap[k]? = w.heap[k]?
/-- A new block, the last one. -/
structure New (w w1 : World) (o : Obj) : Prop where
  below : Below w.heap.size w w1
  size : w1.heap.size = w.heap.size + 1
  at_ : w1.heap[w.heap.size]? = some o
theorem New.alloc (w : World) (o : Obj) : New w (w.alloc o) o := ⟨below_alloc (Below.refl _ _) o, by simp, heap_alloc_new w o⟩
theorem New.keep {w w1 : World} {o : Obj} (h : New w w1 o) {g : Nat} {o' : Obj} (hg : w.heap[g]? = some o') : w1.heap[g]? = some o' := (h.below.block g (blk_lt hg)).trans hg
theorem Upd.keep {w w1 : World} {g : Nat} {o : Obj} (h : Upd w w1 g o) {k : Nat} {o' : Obj} (hk : w.heap[k]? = some o') (hne : k ≠ g) : w1.heap[k]? = some o' := (h.rest k hne).trans hk
theorem Upd.below {w w0 w1 : World} {B g : Nat} {o : Obj} (h : Upd w w1 g o) (hb : Below B w0 w) (hg : B ≤ g) : Below B w0 w1 :=
  hb.trans ⟨h.os, h.tape, h.output, by rw [h.size]; exact Nat.le_refl _, fun k hk => h.rest k (by omega)⟩
theorem Upd.row {w : World} {g : Nat} {old : Array Value} {t : TypeId} (hg : w.heap[g]? = some (.cells old t (0, 0))) (cs : Array Value) : Upd w (w.setRow g cs) g (.cells cs t (0, 0)) :=
  ⟨rfl, rfl, rfl, by simp, setRow_heap w g old cs t (0, 0) hg, fun k hk => setRow_other w g k cs hk⟩
theorem Upd.cell {w : World} {g : Nat} {old : Array Value} {t : TypeId} (hg : w.heap[g]? = some (.cells old t (0, 0))) (i : Nat) (v : Value) : Upd w (w.setCell ⟨g, i, none⟩ v) g (.cells (old.setIfInBounds i v) t (0, 0)) :=
  ⟨rfl, rfl, rfl, by simp, blk_set hg i v, fun k hk => Below.heap_setCell _ _ _ _ hk⟩

section
variable {P : Program} {ops : Array Oper} {rest : List Oper} {o : Oper} {a : Act} {w : World} {Q : Exit → Act → World → Prop}
theorem wpList_alloc_row (hgd : o.guard = none) (ty : TypeId) (ho : o.op = .alloc ty) (z : Value) (hz : (zeroValue ty).run P w = .ok z w)
    (h : ∀ w1, New w w1 (.cells z.cells ty) → wpList P ops Q rest (a.put o.dst (.pointer (some ⟨w.heap.size, 0, none⟩))) w1) : wpList P ops Q (o :: rest) a w := by
  refine wpList_plain hgd fun K hK => ?_
  unfold Oper.wp execOp
  simp only [ho, Instr.alloc, newVar, newRow, Sem.run_bind, hz, Result.andThen_ok, run_newObj_alloc, Sem.run_pure]
  exact hK _ _ (h _ (New.alloc w (.cells z.cells ty)))
theorem wpList_store_row' (hgd : o.guard = none) (ty : TypeId) (x y : Operand) (ho : o.op = .store ty x y)
    (g : Nat) (cells : Array Value) (hx : a.eval x = .pointer (some ⟨g, 0, none⟩)) (hy : a.eval y = .agg cells)
    (t : TypeId) (old : Array Value) (hg : w.heap[g]? = some (.cells old t (0, 0))) (hi : (P.info? ty).map (·.size) = some cells.size)
    (hold : old.size = cells.size) (h1 : cells.all (·.oneCell') = true)
    (h : ∀ w1, Upd w w1 g (.cells cells t (0, 0)) → wpList P ops Q rest (a.put o.dst undef) w1) : wpList P ops Q (o :: rest) a w :=
  wpList_store_row hgd ty x y ho g cells hx hy t old hg hi hold h1 (h _ (Upd.row hg cells))
end
/-- An array's element by an index. -/
theorem run_index_words {P : Program} {t e : TypeId} {n : Nat} (ht : P.underlying t = some (.array n e)) (he : P.underlying e = some (.int .u32)) (hi : (P.info? e).map (·.size) = some 1) (l : List Int) (hl : l.length = n) (i : Nat) (h : i < n) (W : World) :
    (Instr.index t (.agg (nums .u32 l).toArray) (.int .i64 (i : Int))).run P W = .ok (.int .u32 (l.getD i 0)) W := by
  obtain ⟨i0, hi0, hi1⟩ := Option.map_eq_some_iff.1 hi
  have hx : (nums .u32 l)[i]? = some (.int .u32 (l[i]?.getD 0)) := by simp [nums, hl, h]
  have hagg : (isAgg e).run P W = .ok false W := by
    unfold isAgg
    rw [Sem.run_bind, run_underlying he W]
    rfl
  simp [Instr.index, run_underlying ht, sizeOf, typeInfo, hi0, hi1, part, hagg, hx, h, Result.andThen, asIntOf]
theorem nums_one (k : IntKind) (l : List Int) : ((nums k l).toArray).all (·.oneCell') = true := by
  rw [Array.all_eq_true_iff_forall_mem]
  intro v hv
  have hv' : v ∈ nums k l := by simpa using hv
  obtain ⟨x, _, rfl⟩ := List.mem_map.1 hv'
  rfl
end Go.Proofs.Ytpllmkcbkdahbaa.Sha
