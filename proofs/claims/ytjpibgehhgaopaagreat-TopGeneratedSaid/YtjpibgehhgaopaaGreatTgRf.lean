/- A range over a function whose iterator writes to memory of its own: the loop's record as the walk sees it, over any program: no law of this claim's program is in it. -/
import Derived.RangeFuncNested
import Derived.RangeFuncBound
import Derived.RangeFuncCalls
import Derived.RangeFuncLeaves
namespace Go.Proofs.YtjpibgehhgaopaaGreat.Rf
open Go
set_option linter.unusedVariables false

variable {P : Program}
/-- The record of a loop, by its state and the pending jump. -/
structure Rec (a : Act) (ps : Array Tmp) (assign body : Code) (D : Nat) (rec : LoopState → Option Code → Loop) (fn : FuncId) : Prop where
  eq : rec = fun st pe => { state := st, pending := pe, fn, tmps := a.tmps, params := ps, assign, body, defers := D }

/-- How a round may be left: the record is busy still; the world behind the round's end goes to R. -/
def roundP (l : Nat) (rec : LoopState → Option Code → Loop) (R : Ending → World → Prop) : Exit → Act → World → Prop
  | .normal, _, W => W.heap[l]? = some (.loop (rec .busy none)) ∧ R (.returned (.bool true)) (W.putObj l (.loop (rec .ready none)))
  | .ret, _, W => W.heap[l]? = some (.loop (rec .busy none)) ∧ R (.returned (.bool false)) (W.putObj l (.loop (rec .done (some .ret))))
  | .exit id, _, W => W.heap[l]? = some (.loop (rec .busy none)) ∧ R (.returned (.bool false)) (W.putObj l (.loop (rec .done (some (.exit id)))))
  | .goto t, _, W => W.heap[l]? = some (.loop (rec .busy none)) ∧ R (.returned (.bool false)) (W.putObj l (.loop (rec .done (some (.goto t)))))
  | .panic _, _, _ => False
  | .outgrown, _, _ => False

theorem yield_at {a : Act} {ps : Array Tmp} {assign body : Code} {D l m : Nat} {rec : LoopState → Option Code → Loop} {fn : FuncId} {args : Array Value} {W : World} {R : Ending → World → Prop}
    (hrec : Rec a ps assign body D rec fn) (hl : W.heap[l]? = some (.loop (rec .ready none))) (hs : args.size = ps.size)
    (h : assign.wpIn (Fence.wide.inRound l) m P (Exit.then (fun a₁ W₁ => W₁.heap[l]? = some (.loop (rec .ready none)) ∧ body.wpIn (Fence.wide.inRound l) m P (roundP l rec R) a₁ (W₁.putObj l (.loop (rec .busy none)))) (fun _ _ _ => False))
      { tmps := (ps.zip args).foldl (fun t (p, v) => t.setIfInBounds p v) a.tmps, defers := [] } W) : YieldAt Fence.wide m P l args W R := by
  obtain ⟨rfl⟩ := hrec
  have hy := run_yield (P := P) (args := args) hl (by exact hs)
  refine ⟨fn, _, assign, body, hy, roundIn_of_wpIn trivial (wpIn_mono h ?_)⟩
  rintro e a₁ W₁ he
  cases e with
  | normal =>
    obtain ⟨hl1, hb⟩ := he
    refine ⟨_, run_beginRound hl1 rfl, wpIn_mono hb ?_⟩
    rintro e a₂ W₂ hp
    cases e with
    | normal => exact ⟨_, _, run_endRound none hp.1, hp.2⟩
    | ret => exact ⟨_, _, run_endRound (some .ret) hp.1, hp.2⟩
    | exit id => exact ⟨_, _, run_endRound (some (.exit id)) hp.1, hp.2⟩
    | goto t => exact ⟨_, _, run_endRound (some (.goto t)) hp.1, hp.2⟩
    | panic ch => exact hp.elim
    | outgrown => exact hp.elim
  | ret => exact he.elim
  | exit id => exact he.elim
  | goto t => exact he.elim
  | panic ch => exact he.elim
  | outgrown => exact he.elim

/-- The statement, at the wide fence: the two blocks are laid; the iterator is called with yield; what it leaves. -/
theorem wp_rangeFunc {g : Operand} {ps : Array Tmp} {assign body : Code} {Q : Exit → Act → World → Prop} {a : Act} {w : World} {n : Nat}
    {gf : Nat} {lb : Array Value} (hg : a.eval g = .func (.func gf) #[] lb) (eg : ∀ args w, (callFunc gf args).run P w = .ok (.enter gf args) w) (Idone : World → Prop) (Istop : Code → World → Prop)
    (hcall : ∀ (fn : FuncId) (rec : LoopState → Option Code → Loop), Rec a ps assign body w.heap.size rec fn →
      CallsIn Fence.wide (n - 1) P gf (#[.func (.yield (w.heap.size + 1)) #[] #[]] ++ lb) ((w.alloc (.deferred (some []))).alloc (.loop (rec .ready none))) fun e W =>
        ((∃ v, e = .returned v) ∧ ((W.heap[w.heap.size + 1]? = some (.loop (rec .ready none)) ∧ Idone W) ∨ (∃ c, W.heap[w.heap.size + 1]? = some (.loop (rec .done (some c))) ∧ Istop c W))))
    (hdone : ∀ W o, Idone W → W.heap[w.heap.size + 1]? = some (.loop o) → ∀ o', Q .normal { a with defers := { target := .collected w.heap.size, args := #[] } :: a.defers } (W.putObj (w.heap.size + 1) (.loop o')))
    (hstop : ∀ c W o, Istop c W → W.heap[w.heap.size + 1]? = some (.loop o) → ∀ o', c.wpIn Fence.wide n P Q { a with defers := { target := .collected w.heap.size, args := #[] } :: a.defers } (W.putObj (w.heap.size + 1) (.loop o'))) :
    (Code.rangeFunc g ps assign body).wpIn Fence.wide n P Q a w := by
  refine wpIn_rangeFunc fun fn _ => ?_
  obtain ⟨rec, hrec⟩ : ∃ rec : LoopState → Option Code → Loop, rec = fun st pe => { state := st, pending := pe, fn, tmps := a.tmps, params := ps, assign, body, defers := w.heap.size } := ⟨_, rfl⟩
  obtain ⟨W1, hW1⟩ : ∃ W1, (w.alloc (.deferred (some []))).alloc (.loop (rec .ready none)) = W1 := ⟨_, rfl⟩
  refine ⟨w.heap.size + 1, [{ target := .collected w.heap.size, args := #[] }], W1, { target := .fn (.func gf) lb, args := #[.func (.yield (w.heap.size + 1)) #[] #[]] }, W1, gf,
    #[.func (.yield (w.heap.size + 1)) #[] #[]] ++ lb, W1, ?_, ?_, ?_, ?_, ?_, ?_⟩
  · rw [← hW1, hrec]; exact run_enterLoop_outer _ _ _ _ _
  · simp only [resolve, hg]
    simp [go_sem]
  · exact fun _ _ => trivial
  · simp [invoke, go_sem, eg]
  · intro h; cases h
  · rw [← hW1]
    refine ⟨trivial, fun cs hr => ?_⟩
    obtain ⟨e, W, fr, hR, hs, hf, hl⟩ := (hcall fn rec ⟨hrec⟩).2 cs hr
    refine ⟨e, W, fr, ?_, hs, hf, hl⟩
    obtain ⟨⟨v, rfl⟩, (⟨hl, hi⟩ | ⟨c, hl, hi⟩)⟩ := hR
    · exact ⟨none, _, by have := run_endLoop (P := P) hl (by rw [hrec]; simp); rw [hrec] at this; exact this, hdone _ _ hi hl _⟩
    · exact ⟨some c, _, by have := run_endLoop (P := P) hl (by rw [hrec]; simp); rw [hrec] at this; exact this, hstop c _ _ hi hl _⟩
end Go.Proofs.YtjpibgehhgaopaaGreat.Rf
