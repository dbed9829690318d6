/- The state's argument, opened. -/
import Derived.Test.YtpllmkcbkdahbaaShOpen
import Derived.Test.YtpllmkcbkdahbaaShBlocks
namespace Go.Proofs.Ytpllmkcbkdahbaa.Sha
open Go.ChangeShapes Go.WideShapes Go.ChangeAt Go.RowKit Go.Deep Go.Joins Go.Proofs.YtpllmkcbkdahbaaW.PrintWords
set_option linter.unusedVariables false
set_option linter.unusedSimpArgs false
section
variable {H : Type} {enc : TypeId × Value → H} {W : World}
theorem open_arr8 {r : Reach} {b0 : Nat} {base : Nat} {held : Bool} {v : Value} {d : DataW H} {p : List MemPlace} (hv : Value.okWide Try.prog W r b0 28 v) (h : DataW.Trod enc Try.prog W base (fun _ => true) held 28 v d p) :
    ∃ s : St8, v = s8V s ∧ s.U := by
  have h28 : Try.prog.cellsOf 28 = 8 := by kernel_rfl
  have h27 : Try.prog.cellsOf 27 = 1 := by kernel_rfl
  simp only [Value.okWide, Try.underlying28] at hv
  obtain ⟨cs, rfl, hsz, _⟩ := hv
  obtain ⟨fuel, hf⟩ := h
  obtain ⟨xs, m, _, _, hl, hxl, hi⟩ := DataW.trod_array Try.underlying28 hf
  have hc : ∀ i, i < 8 → ∃ n, ((Value.agg cs).cells.toList.drop (i * 1)).take 1 = [.int .u32 n] ∧ (Lit.int .u32 n).wf = true := by
    intro i h8
    have h := hi i h8
    rw [h27] at h
    obtain ⟨x, hx⟩ : ∃ x, xs[i]? = some x := ⟨xs[i], List.getElem?_eq_getElem (by omega)⟩
    rw [hx] at h
    obtain ⟨n, e, _, hw⟩ := DataW.trod_int Try.underlying27 h
    exact ⟨n, e, hw⟩
  have hl8 : cs.toList.length = 8 := by rw [h28] at hl; exact hl
  obtain ⟨c0, c1, c2, c3, c4, c5, c6, c7, hcs⟩ : ∃ c0 c1 c2 c3 c4 c5 c6 c7, cs.toList = [c0, c1, c2, c3, c4, c5, c6, c7] := by
    generalize cs.toList = l at hl8
    match l, hl8 with
    | [c0, c1, c2, c3, c4, c5, c6, c7], _ => exact ⟨c0, c1, c2, c3, c4, c5, c6, c7, rfl⟩
  have hc' : ∀ i, i < 8 → ∃ n, ([c0, c1, c2, c3, c4, c5, c6, c7].drop (i * 1)).take 1 = [.int .u32 n] ∧ (Lit.int .u32 n).wf = true := by
    intro i h8
    have h := hc i h8
    have e : (Value.agg cs).cells.toList = cs.toList := rfl
    rw [e, hcs] at h
    exact h
  obtain ⟨n0, e0, w0⟩ := hc' 0 (by omega)
  obtain ⟨n1, e1, w1⟩ := hc' 1 (by omega)
  obtain ⟨n2, e2, w2⟩ := hc' 2 (by omega)
  obtain ⟨n3, e3, w3⟩ := hc' 3 (by omega)
  obtain ⟨n4, e4, w4⟩ := hc' 4 (by omega)
  obtain ⟨n5, e5, w5⟩ := hc' 5 (by omega)
  obtain ⟨n6, e6, w6⟩ := hc' 6 (by omega)
  obtain ⟨n7, e7, w7⟩ := hc' 7 (by omega)
  simp at e0 e1 e2 e3 e4 e5 e6 e7
  refine ⟨⟨n0, n1, n2, n3, n4, n5, n6, n7⟩, ?_, wf32 w0, wf32 w1, wf32 w2, wf32 w3, wf32 w4, wf32 w5, wf32 w6, wf32 w7⟩
  have : cs = #[.int .u32 n0, .int .u32 n1, .int .u32 n2, .int .u32 n3, .int .u32 n4, .int .u32 n5, .int .u32 n6, .int .u32 n7] := by
    apply Array.toList_inj.1
    rw [hcs, e0, e1, e2, e3, e4, e5, e6, e7]
  rw [this]
end
end Go.Proofs.Ytpllmkcbkdahbaa.Sha
