/- The script's Filled: the state of its loop. -/
import Derived.Test.YtcjphioimmgbfaaPeB
namespace Go.Proofs.Ytcjphioimmgbfaa.Tra
open Go.RowKit Go.Shelf Go.Proofs.YtcjphioimmgbfaaW.PrintWords Go.Proofs.YtcjphioimmgbfaaW.PrintLast Go.Proofs.YtcjphioimmgbfaaW.PrintMore Go.Proofs.Ytcjphioimmgbfaa.PTraceActs Go.Proofs.Ytcjphioimmgbfaa.Rf
set_option linter.unusedVariables false
set_option linter.unusedSimpArgs false

def FillOk (xs : List Int) : Prop := ∀ x ∈ xs, x ≠ 0 ∧ Byte x
/-- The state of Filled's loop: s, the heap's size as the call began: the boxes of n, of both results, of out, of the script; the block for deferred calls, the loop's record. -/
structure Fl (w : World) (s sb : Nat) (A : Option Addr) (c : Nat) (bs : List Int) (n base : Nat) (r : Loop) (u1 : Value) (e1 : Int) (p : Nat) (v : Value) (xs : List Int) (W : World) : Prop where
  hs : s = w.heap.size
  b3 : W.heap[s]? = some (.cells #[.int .i64 (n : Int)] 3)
  b4 : W.heap[s + 1]? = some (.cells #[u1] 42)
  b5 : W.heap[s + 1 + 1]? = some (.cells #[.int .i64 e1] 44)
  b6 : W.heap[s + 1 + 1 + 1]? = some (.cells #[v] 42)
  b7 : W.heap[s + 1 + 1 + 1 + 1]? = some (.cells #[.pointer (some ⟨sb, 0, none⟩)] 58)
  dd : W.heap[s + 1 + 1 + 1 + 1 + 1]? = some (.deferred (some []))
  ll : W.heap[s + 1 + 1 + 1 + 1 + 1 + 1]? = some (.loop r)
  sc : W.heap[sb]? = some (scB A bs.length c (p : Int))
  row : W.ownsRow s 5 1 v xs.length (nums .u8 xs)
  old : W.ownsRow base 5 1 (.slice A bs.length c) bs.length (nums .u8 bs)
  olt : ∀ k, (Value.slice A bs.length c).ownBlock = some k → k < s
  only : OnlyT w W (some sb) none
  lt : sb < s
  okx : FillOk xs
section
variable {w W W' : World} {s sb c n base p p' : Nat} {A : Option Addr} {bs xs : List Int} {r r' : Loop} {u1 v : Value} {e1 : Int}
theorem Fl.size (h : Fl w s sb A c bs n base r u1 e1 p v xs W) : s + 7 ≤ W.heap.size := by
  have := blk_lt h.ll
  omega
theorem Fl.drewN (h : Fl w s sb A c bs n base r u1 e1 p v xs W) (k : Nat) : Fl w s sb A c bs n base r u1 e1 p v xs (W.drewN k) :=
  ⟨h.hs, h.b3, h.b4, h.b5, h.b6, h.b7, h.dd, h.ll, h.sc, h.row, h.old, h.olt, ⟨h.only.os, h.only.tape, h.only.output, h.only.size, h.only.block⟩, h.lt, h.okx⟩
theorem Fl.rowne (h : Fl w s sb A c bs n base r u1 e1 p v xs W) {g : Nat} {o : Obj} (hg : W.heap[g]? = some o) (ho : ∀ cs, o ≠ .cells cs 5 (0, 0)) : some g ≠ v.ownBlock := by
  intro e
  obtain ⟨cs, hc⟩ := own_typed h.row g e.symm
  rw [hg] at hc
  injection hc with hc
  exact ho cs hc
theorem Fl.oldne (h : Fl w s sb A c bs n base r u1 e1 p v xs W) {g : Nat} {o : Obj} (hg : W.heap[g]? = some o) (ho : ∀ cs, o ≠ .cells cs 5 (0, 0)) : some g ≠ (Value.slice A bs.length c).ownBlock := by
  intro e
  obtain ⟨cs, hc⟩ := own_typed h.old g e.symm
  rw [hg] at hc
  injection hc with hc
  exact ho cs hc
/-- A block of the state's own turns: all others stay. -/
theorem only_step (h : OnlyT w W (some sb) none) {k : Nat} (hk : w.heap.size ≤ k ∨ k = sb) (hg : W.grownBy W' (some k)) : OnlyT w W' (some sb) none :=
  ⟨hg.os.trans h.os, hg.tape.trans h.tape, hg.output.trans h.output, Nat.le_trans h.size hg.size, fun i hi h1 h2 => (hg.block i (by have := h.size; omega) (by
    intro e
    injection e with e
    rcases hk with hk | hk
    · omega
    · exact h1 (by rw [e, hk]))).trans (h.block i hi h1 h2)⟩
theorem grown_set (W : World) (q : Addr) (u : Value) : W.grownBy (W.setCell q u) (some q.block) :=
  ⟨rfl, rfl, rfl, by simp, fun k _ hk => Below.heap_setCell _ _ _ k (fun e => hk (by rw [e]))⟩
theorem Fl.place (h : Fl w s sb A c bs n base r u1 e1 p v xs W) (q : Nat) : Fl w s sb A c bs n base r u1 e1 q v xs (W.setCell ⟨sb, 1, none⟩ (.int .i64 (q : Int))) := by
  have hg := grown_set W ⟨sb, 1, none⟩ (.int .i64 (q : Int))
  have hl := h.lt
  have f : ∀ {g : Nat} {o : Obj}, W.heap[g]? = some o → s ≤ g → (W.setCell ⟨sb, 1, none⟩ (.int .i64 (q : Int))).heap[g]? = some o := fun h1 h2 => blk_grown h1 hg (fun e => by injection e with e; simp at e; omega)
  exact ⟨h.hs, f h.b3 (by omega), f h.b4 (by omega), f h.b5 (by omega), f h.b6 (by omega), f h.b7 (by omega), f h.dd (by omega), f h.ll (by omega), blk_set h.sc 1 _,
    own_setCell h.row (h.rowne h.sc (by intro cs e; injection e with _ e2; simp at e2)) _, own_setCell h.old (h.oldne h.sc (by intro cs e; injection e with _ e2; simp at e2)) _, h.olt, only_step h.only (.inr rfl) hg, h.lt, h.okx⟩
theorem Fl.turn (h : Fl w s sb A c bs n base r u1 e1 p v xs W) (r' : Loop) : Fl w s sb A c bs n base r' u1 e1 p v xs (W.putObj (s + 1 + 1 + 1 + 1 + 1 + 1) (.loop r')) := by
  have hg := grownBy_putObj' W (s + 1 + 1 + 1 + 1 + 1 + 1) (.loop r')
  have hl := h.lt
  have hz := h.size
  have f : ∀ {g : Nat} {o : Obj}, W.heap[g]? = some o → g ≠ s + 1 + 1 + 1 + 1 + 1 + 1 → (W.putObj (s + 1 + 1 + 1 + 1 + 1 + 1) (.loop r')).heap[g]? = some o := fun h1 h2 => blk_grown h1 hg (fun e => by injection e with e; omega)
  exact ⟨h.hs, f h.b3 (by omega), f h.b4 (by omega), f h.b5 (by omega), f h.b6 (by omega), f h.b7 (by omega), f h.dd (by omega), World.putObj_heap_same (by omega), f h.sc (by omega),
    ownsRow_putObj h.row _ h.ll rfl, ownsRow_putObj h.old _ h.ll rfl, h.olt, only_step h.only (.inl (by have := h.hs; omega)) hg, h.lt, h.okx⟩
/-- The append's world, out's box written anew. -/
theorem Fl.append {v' : Value} {x : Int} (h : Fl w s sb A c bs n base r u1 e1 p v xs W) {o : Obj} (hg : (W.alloc o).grownBy W' v.ownBlock) (hr : W'.ownsRow s 5 1 v' (xs.length + 1) (nums .u8 xs ++ [.int .u8 x])) (hx : x ≠ 0 ∧ Byte x) :
    Fl w s sb A c bs n base r u1 e1 p v' (xs ++ [x]) (W'.setCell ⟨s + 1 + 1 + 1, 0, none⟩ v') := by
  have hl := h.lt
  have hz := h.size
  have hh := h.hs
  have f0 : ∀ {g : Nat} {o' : Obj}, W.heap[g]? = some o' → (∀ cs, o' ≠ .cells cs 5 (0, 0)) → W'.heap[g]? = some o' := fun h1 h2 => blk_grown (blk_alloc h1 o) hg (h.rowne h1 h2)
  have b6' : W'.heap[s + 1 + 1 + 1]? = some (.cells #[v] 42) := f0 h.b6 (by intro cs e; injection e with _ e2; simp at e2)
  have f : ∀ {g : Nat} {o' : Obj}, W.heap[g]? = some o' → (∀ cs, o' ≠ .cells cs 5 (0, 0)) → g ≠ s + 1 + 1 + 1 → (W'.setCell ⟨s + 1 + 1 + 1, 0, none⟩ v').heap[g]? = some o' := fun h1 h2 h3 => by
    rw [Below.heap_setCell _ _ _ _ h3]
    exact f0 h1 h2
  have holdne : (Value.slice A bs.length c).ownBlock = none ∨ (Value.slice A bs.length c).ownBlock ≠ v.ownBlock := by
    rcases ho : (Value.slice A bs.length c).ownBlock with _ | k
    · exact .inl rfl
    · refine .inr fun e => ?_
      have h1 := own_base h.row k e.symm
      have h2 := h.olt k ho
      omega
  refine ⟨h.hs, f h.b3 ?_ (by omega), f h.b4 ?_ (by omega), f h.b5 ?_ (by omega), blk_set b6' 0 v', f h.b7 ?_ (by omega), f h.dd ?_ (by omega), f h.ll ?_ (by omega), f h.sc ?_ (by omega), ?_, ?_, h.olt, ?_, h.lt, ?_⟩
  · intro cs e; injection e with _ e2; simp at e2
  · intro cs e; injection e with _ e2; simp at e2
  · intro cs e; injection e with _ e2; simp at e2
  · intro cs e; injection e with _ e2; simp at e2
  · intro cs e; cases e
  · intro cs e; cases e
  · intro cs e; injection e with _ e2; simp at e2
  · rw [List.length_append, List.length_singleton]
    have : nums .u8 (xs ++ [x]) = nums .u8 xs ++ [.int .u8 x] := by simp [nums]
    rw [this]
    exact own_setCell hr (own_ne hr b6' (by decide)) _
  · exact own_setCell (own_other (own_alloc h.old o) hg holdne) (by
      intro e
      have := h.olt _ e.symm
      simp at this
      omega) _
  · refine ⟨hg.os.trans h.only.os, hg.tape.trans h.only.tape, hg.output.trans h.only.output, ?_, fun i hi h1 h2 => ?_⟩
    · have h1 := hg.size
      have h2 := h.only.size
      simp at h1 ⊢
      omega
    · rw [Below.heap_setCell _ _ _ _ (by simp; omega), hg.block i (by have := h.only.size; simp; omega) ?_, Below.heap_alloc _ _ _ (by have := h.only.size; omega)]
      · exact h.only.block i hi h1 h2
      · intro e
        have := own_base h.row i e.symm
        omega
  · intro y hy
    rcases List.mem_append.1 hy with hy | hy
    · exact h.okx y hy
    · obtain rfl : y = x := by simpa using hy
      exact hx
theorem Fl.through (h : Fl w s sb A c bs n base r u1 e1 p v xs W) {o : Obj} (hg : (W.alloc o).grownBy W' v.ownBlock) :
    W'.cell? ⟨s, 0, none⟩ = some (.int .i64 (n : Int)) ∧ W'.cell? ⟨s + 1, 0, none⟩ = some u1 ∧ W'.cell? ⟨s + 1 + 1, 0, none⟩ = some (.int .i64 e1) ∧ W'.cell? ⟨s + 1 + 1 + 1, 0, none⟩ = some v ∧
    W'.frozen? ⟨s + 1, 0, none⟩ = false ∧ W'.frozen? ⟨s + 1 + 1, 0, none⟩ = false ∧ W'.frozen? ⟨s + 1 + 1 + 1, 0, none⟩ = false := by
  have f0 : ∀ {g : Nat} {o' : Obj}, W.heap[g]? = some o' → (∀ cs, o' ≠ .cells cs 5 (0, 0)) → W'.heap[g]? = some o' := fun h1 h2 => blk_grown (blk_alloc h1 o) hg (h.rowne h1 h2)
  have k3 := f0 h.b3 (by intro cs e; injection e with _ e2; simp at e2)
  have k4 := f0 h.b4 (by intro cs e; injection e with _ e2; simp at e2)
  have k5 := f0 h.b5 (by intro cs e; injection e with _ e2; simp at e2)
  have k6 := f0 h.b6 (by intro cs e; injection e with _ e2; simp at e2)
  exact ⟨blk_cell k3 0, blk_cell k4 0, blk_cell k5 0, blk_cell k6 0, blk_frozen k4 0, blk_frozen k5 0, blk_frozen k6 0⟩
/-- Both results written. -/
theorem Fl.results (h : Fl w s sb A c bs n base r u1 e1 p v xs W) (u2 : Value) (e2 : Int) : Fl w s sb A c bs n base r u2 e2 p v xs ((W.setCell ⟨s + 1, 0, none⟩ u2).setCell ⟨s + 1 + 1, 0, none⟩ (.int .i64 e2)) := by
  have hl := h.lt
  have hz := h.size
  have hh := h.hs
  have f : ∀ {g : Nat} {o' : Obj}, W.heap[g]? = some o' → g ≠ s + 1 → g ≠ s + 1 + 1 → ((W.setCell ⟨s + 1, 0, none⟩ u2).setCell ⟨s + 1 + 1, 0, none⟩ (.int .i64 e2)).heap[g]? = some o' := fun h1 h2 h3 => by
    rw [Below.heap_setCell _ _ _ _ h3, Below.heap_setCell _ _ _ _ h2]
    exact h1
  have b4' : ((W.setCell ⟨s + 1, 0, none⟩ u2).setCell ⟨s + 1 + 1, 0, none⟩ (.int .i64 e2)).heap[s + 1]? = some (.cells #[u2] 42) := by
    rw [Below.heap_setCell _ _ _ _ (by simp)]
    exact blk_set h.b4 0 u2
  have b5' : (W.setCell ⟨s + 1, 0, none⟩ u2).heap[s + 1 + 1]? = some (.cells #[.int .i64 e1] 44) := by
    rw [Below.heap_setCell _ _ _ _ (by simp)]
    exact h.b5
  exact ⟨h.hs, f h.b3 (by omega) (by omega), b4', blk_set b5' 0 _, f h.b6 (by omega) (by omega), f h.b7 (by omega) (by omega), f h.dd (by omega) (by omega), f h.ll (by omega) (by omega), f h.sc (by omega) (by omega),
    own_setCell (own_setCell h.row (h.rowne h.b4 (by intro cs e; injection e with _ e2; simp at e2)) _) (h.rowne h.b5 (by intro cs e; injection e with _ e2; simp at e2)) _,
    own_setCell (own_setCell h.old (h.oldne h.b4 (by intro cs e; injection e with _ e2; simp at e2)) _) (h.oldne h.b5 (by intro cs e; injection e with _ e2; simp at e2)) _, h.olt,
    only_step (only_step h.only (.inl (by simp; omega)) (grown_set W ⟨s + 1, 0, none⟩ u2)) (.inl (by simp; omega)) (grown_set _ ⟨s + 1 + 1, 0, none⟩ _), h.lt, h.okx⟩
theorem Fl.leave (h : Fl w s sb A c bs n base r u1 e1 p v xs W) {W' : World} (hW : W' = W.putObj (s + 1 + 1 + 1 + 1 + 1) (.deferred none)) :
    W'.cell? ⟨s + 1, 0, none⟩ = some u1 ∧ W'.cell? ⟨s + 1 + 1, 0, none⟩ = some (.int .i64 e1) ∧ W'.ownsRow s 5 1 v xs.length (nums .u8 xs) ∧ OnlyT w W' (some sb) none := by
  subst hW
  have hg := grownBy_putObj' W (s + 1 + 1 + 1 + 1 + 1) (.deferred none)
  have f : ∀ {g : Nat} {o : Obj}, W.heap[g]? = some o → g ≠ s + 1 + 1 + 1 + 1 + 1 → (W.putObj (s + 1 + 1 + 1 + 1 + 1) (.deferred none)).heap[g]? = some o := fun h1 h2 => blk_grown h1 hg (fun e => by injection e with e; omega)
  exact ⟨blk_cell (f h.b4 (by omega)) 0, blk_cell (f h.b5 (by omega)) 0, ownsRow_putObj h.row _ h.dd rfl, only_step h.only (.inl (by have := h.hs; omega)) hg⟩
theorem Fl.it (h : Fl w s sb A c bs n base r u1 e1 p v xs W) : ItAt W (s + 1 + 1 + 1 + 1) sb A c bs p := by
  refine ⟨blk_cell h.b7 0, h.sc, fun j hj => ?_, fun ad e => ?_, by have := h.lt; omega⟩
  · obtain ⟨A1, c1, he, hr⟩ := own_reads h.old
    injection he with h1 h2 h3
    subst h1
    obtain ⟨ad, ha, hc⟩ := hr.2.2 (by omega)
    exact ⟨ad, ha, hc j hj⟩
  · subst e
    exact own_blk h.old (h.oldne h.sc (by intro cs e; injection e with _ e2; simp at e2))
end
end Go.Proofs.Ytcjphioimmgbfaa.Tra
