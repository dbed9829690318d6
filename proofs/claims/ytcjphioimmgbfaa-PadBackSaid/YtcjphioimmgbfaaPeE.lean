/- slices.Grow of nil and slices.Concat, of bytes. -/
import Derived.Test.YtcjphioimmgbfaaPeD
import Derived.Lib.AppendZerosOnto
namespace Go.Proofs.Ytcjphioimmgbfaa.Tra
open Go.RowKit Go.Lib Go.Proofs.YtcjphioimmgbfaaW.PrintWords Go.Proofs.YtcjphioimmgbfaaW.PrintLast Go.Proofs.YtcjphioimmgbfaaW.PrintMore Go.Proofs.Ytcjphioimmgbfaa.PTraceActs
set_option linter.unusedVariables false
set_option linter.unusedSimpArgs false

set_option maxRecDepth 100000 in
theorem growB (N : Nat) (w : World) (h1 : 1 ≤ N) (h2 : N ≤ 1000000) :
    Calls Try.prog 48 #[.slice none 0 0, .int .i64 (N : Int)] w fun e w' => ∃ v, e = .returned v ∧ Aside0 (w'.ownsRow w.heap.size 5 1 v 0 []) ∧ Aside0 (Below w.heap.size w w') := by
  obtain ⟨i0, hi, hz0, hz1, hz2⟩ := info_parts info5'
  have d1 : decide ((N : Int) < 0) = false := by simp
  have d2 : decide ((N : Int) > 0) = true := by simp; omega
  have w1 : wrap64 (N : Int) = (N : Int) := by unfold wrap64; omega
  have w2 : wrap64 ((N : Int) - 0) = (N : Int) := by unfold wrap64; omega
  have hrz : ∀ ty, (Builtin.append_ #[42, 3] ty #[.slice none 0 0, .int .i64 (N : Int)]).run Try.prog w =
      .ok (.slice (some ⟨w.heap.size, 0, none⟩) N (grownCap w N 0 5)) (w.drew.alloc (.cells (#[] ++ Builtin.zeroCells (Value.cells (.int .u8 0)) N ++ Builtin.zeroCells (Value.cells (.int .u8 0)) (grownCap w N 0 5 - N)) 5)) := fun ty => by
    have h := Lib.run_append_grow_zeros w 42 3 ty 5 i0 (.int .u8 0) .i64 .i64 Try.underlying42 Try.underlying3 hi hz0 none 0 0 [] (by rw [hz1]; exact run_firstCells_none w.drew 1 0 0 0) N (by omega) (by rw [hz1]; omega) (by omega) (by omega)
      (by rw [hz2]; omega) (by rw [Nat.zero_add]; rw [hz2]; exact growslice_fits (by omega) (by omega))
    rw [Nat.zero_add] at h
    exact h
  have hGn : N ≤ grownCap w N 0 5 := grownCap_ge w _ _ _
  have hG63 : grownCap w N 0 5 ≤ maxLen := grownCap_le_maxLen w N 0 5 (by unfold maxLen; omega)
  obtain ⟨G, hG⟩ : ∃ G, G = grownCap w N 0 5 := ⟨_, rfl⟩
  rw [← hG] at hrz hGn hG63
  have HG := Aside0.mk hG63
  have hG2 : G ≤ 9223372036854775807 := by unfold maxLen at hG63; omega
  clear hG hG63
  go_enter Try.func48, Try.ntmps48
  go_wp2_with (at_builtin; refine Lib.wpList_append_run _ rfl _ _ _ _ rfl _ _ rfl rfl _ _ (hrz _) ?_)
  all_goals (go_ret; refine ⟨_, rfl, ⟨⟨by simp, .inr ⟨_, G, _, rfl, Nat.le_refl _, blk_drew (blk_new w _), by omega, HG.out, ?_, by simp⟩⟩⟩, ⟨below_drew (below_alloc (Below.refl _ _) _)⟩⟩; simp [size_zeroCells]; omega)

/-- The lists ahead of place i, one behind the other. -/
def catL (ls : Nat → List Int) : Nat → List Int
  | 0 => []
  | i + 1 => catL ls i ++ ls i
theorem catL_mono (ls : Nat → List Int) : ∀ {i j : Nat}, i ≤ j → (catL ls i).length ≤ (catL ls j).length
  | i, 0, h => by obtain rfl : i = 0 := by omega
                  exact Nat.le_refl _
  | i, j + 1, h => by
    rcases Nat.lt_or_ge i (j + 1) with h1 | h1
    · have := catL_mono ls (i := i) (j := j) (by omega)
      simp [catL]
      omega
    · obtain rfl : i = j + 1 := by omega
      exact Nat.le_refl _
set_option maxHeartbeats 1000000 in
set_option maxRecDepth 100000 in
theorem concatB (g K : Nat) (A : Nat → Option Addr) (c : Nat → Nat) (ls : Nat → List Int) (w : World) (hcell : ∀ i, i < K → w.cell? ⟨g, i, none⟩ = some (.slice (A i) (ls i).length (c i))) (hr : ∀ i, i < K → ReadsInt w .u8 (A i) (ls i).length (ls i)) (hK : K ≤ 100) (h1 : 1 ≤ (catL ls K).length) (h2 : (catL ls K).length ≤ 1000000) :
    Calls Try.prog 43 #[.slice (some ⟨g, 0, none⟩) K K] w fun e w' => ∃ v, e = .returned v ∧ Aside0 (w'.ownsRow w.heap.size 5 1 v (catL ls K).length (nums .u8 (catL ls K))) ∧ Aside0 (Below w.heap.size w w') := by
  have HC := Aside0.mk hcell
  have HR := Aside0.mk hr
  have HB0 := Aside0.mk (Below.refl w.heap.size w)
  have HM := Aside0.mk (fun i (hi : i ≤ K) => catL_mono ls hi)
  clear hcell hr
  go_enter Try.func43, Try.ntmps43
  go_wp2_with fail
  go_loopw [3, 11] (fun v3 v11 wr => ∃ i : Nat, v3 = .int .i64 ((catL ls i).length : Int) ∧ v11 = .int .i64 i ∧ Aside0 (i ≤ K) ∧ Aside0 (Below w.heap.size w wr)) (fun _ v11 _ => K - (intOf v11).toNat)
  case atStart => exact ⟨0, rfl, rfl, ⟨by omega⟩, HB0⟩
  case round =>
    obtain ⟨i, rfl, rfl, HI, HB⟩ := hrel
    by_cases hlt : i < K
    · have HLT := Aside0.mk hlt
      have hlt' : decide ((i : Int) < (K : Int)) = true := by simp; omega
      have hlt2 : decide (i < K) = true := by simp; omega
      have hc := pw_cell_below HB.out (HC.out i hlt)
      have hw3 : wrap64 ((i : Int) + 1) = (i : Int) + 1 := by unfold wrap64; omega
      have e1 : (catL ls (i + 1)).length = (catL ls i).length + (ls i).length := by simp [catL]
      have hle := HM.out (i + 1) (by omega)
      have hw4 : wrap64 (((catL ls i).length : Int) + ((ls i).length : Int)) = ((catL ls (i + 1)).length : Int) := by unfold wrap64; omega
      have hd : decide (((catL ls (i + 1)).length : Int) < 0) = false := by simp
      clear e1 hle
      go_wp2_with fail
      go_roundw
      case rel => exact ⟨i + 1, congrArg (Value.int .i64) hw4, congrArg (Value.int .i64) (by omega), ⟨HLT.out⟩, HB⟩
      case measure => exact msr1 i K HLT.out
    · obtain rfl : i = K := by have := HI.out; omega
      have hlt' : decide ((i : Int) < (i : Int)) = false := by simp
      go_wp2_with fail
      refine (growB (catL ls i).length _ h1 h2).mono ?_
      rintro e w1 ⟨v, rfl, hO, hb⟩
      have HO := Aside0.mk (own_less hO.out HB.out.size)
      have HB1 := Aside0.mk (HB.out.trans (hb.out.mono HB.out.size))
      clear hO hb
      go_wp2_with fail
      go_loopw [6, 27] (fun v6 v27 wr => ∃ j : Nat, v27 = .int .i64 j ∧ Aside0 (wr.ownsRow w.heap.size 5 1 v6 (catL ls j).length (nums .u8 (catL ls j))) ∧ Aside0 (j ≤ i) ∧ Aside0 (Below w.heap.size w wr)) (fun _ v27 _ => i - (intOf v27).toNat)
      case atStart => exact ⟨0, rfl, HO, ⟨by omega⟩, HB1⟩
      case round =>
        obtain ⟨j, rfl, HO2, HJ, HB2⟩ := hrel
        by_cases hjt : j < i
        · have HJT := Aside0.mk hjt
          have hlt3 : decide ((j : Int) < (i : Int)) = true := by simp; omega
          have hlt4 : decide (j < i) = true := by simp; omega
          have hc := pw_cell_below HB2.out (HC.out j hjt)
          have HRj := Aside0.mk ((HR.out j hjt).below HB2.out)
          have hw3 : wrap64 ((j : Int) + 1) = (j : Int) + 1 := by unfold wrap64; omega
          have HL := Aside0.mk (show ((catL ls j).length + (ls j).length) * 1 ≤ 140737488355328 by
            have e1 : (catL ls (j + 1)).length = (catL ls j).length + (ls j).length := by simp [catL]
            have := HM.out (j + 1) (by omega)
            omega)
          go_wp2_with (at_builtin; refine print_append_row (w0 := w) w.heap.size rfl (.tmp 31) (.tmp 32) 42 5 .u8 1 rfl Try.underlying42 info5' (by decide) _ (catL ls j) (ls j) (A j) (ls j).length (c j) rfl rfl HO2.out HRj.out HB2.out HB2.out.size HL.out ?_; intro v1 w3 hR1 hB1 hg1 hat1; have HR1 := Aside0.mk hR1; have HB3 := Aside0.mk hB1; clear hR1 hB1 hg1 hat1)
          go_roundw
          case rel => exact ⟨j + 1, congrArg (Value.int .i64) (by omega), HR1, ⟨HJT.out⟩, HB3⟩
          case measure => exact msr1 j i HJT.out
        · obtain rfl : j = i := by have := HJ.out; omega
          have hlt3 : decide ((j : Int) < (j : Int)) = false := by simp
          go_wp2_with fail
          go_ret
          exact ⟨_, rfl, HO2, HB2⟩
end Go.Proofs.Ytcjphioimmgbfaa.Tra
