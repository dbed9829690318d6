/- The pad laws' 'awake' and 'few'; the reference's Unpad. -/
import Derived.Test.YtcjphioimmgbfaaPdD
namespace Go.Proofs.Ytcjphioimmgbfaa.Tra
open Go.RowKit Go.Proofs.YtcjphioimmgbfaaW.PrintWords Go.Proofs.YtcjphioimmgbfaaW.PrintLast Go.Proofs.YtcjphioimmgbfaaW.PrintMore Go.Proofs.Ytcjphioimmgbfaa.PTraceActs
set_option linter.unusedVariables false
set_option linter.unusedSimpArgs false

theorem own_keepB {w w1 : World} {base n : Nat} {e : TypeId} {size : Nat} {v : Value} {xs : List Value} (h : w.ownsRow base e size v n xs) (hb : Below w.heap.size w w1) : w1.ownsRow base e size v n xs :=
  ⟨h.1, h.2.imp id fun ⟨g, cap, cur, he, hbb, hg, hr⟩ => ⟨g, cap, cur, he, hbb, (hb.block _ (blk_lt hg)).trans hg, hr⟩⟩
def em1 : List Int := [0, 2, 1, 1, 1, 1, 1, 1, 1, 1, 0, 7]
def em2 : List Int := [0, 2, 1, 1, 1, 1, 1, 1, 1, 0, 7, 7]
theorem dec1 : decS em1 = ([7], 0) := by decide +kernel
theorem dec2 : decS em2 = ([], 230) := by decide +kernel
theorem lit_reads (w : World) (l : List Int) (hl : l.length ≤ 1000) : ReadsInt (w.alloc (.cells (nums .u8 l).toArray 5)) .u8 (some ⟨w.heap.size, 0, none⟩) l.length l := by
  refine ⟨rfl, by omega, fun _ => ⟨_, rfl, fun j hj => ?_⟩⟩
  rw [add_plain, cell_of_row _ _ j _ _ _ (heap_alloc_new w _)]
  simp [nums, List.getD, hj]
theorem em_bytes (l : List Int) (h : ∀ x ∈ l, Byte x) : ∀ i, Byte (rd l i) := by
  intro i
  unfold rd
  rw [List.getD_eq_getElem?_getD]
  rcases h2 : l[i.toNat]? with _ | x
  · exact ⟨by simp, by simp⟩
  · exact h x (List.mem_of_getElem? h2)
set_option maxRecDepth 100000 in
theorem awakePad (w : World) : Calls Try.prog 23 #[] w fun e w' => e = .returned (.bool true) ∧ Below w.heap.size w w' := by
  have b1 : ∀ i, Byte (rd em1 i) := em_bytes _ (by intro x hx; simp [em1] at hx; unfold Byte; omega)
  have b2 : ∀ i, Byte (rd em2 i) := em_bytes _ (by intro x hx; simp [em2] at hx; unfold Byte; omega)
  go_enter Try.func23, Try.ntmps23
  go_wp2_with fail
  refine (decNil (some ⟨w.heap.size, 0, none⟩) 12 em1 _ (lit_reads w em1 (by decide)) (by decide) b1).mono ?_
  rintro e w1 ⟨v1, rfl, hO1, hb1⟩
  rw [dec1] at hO1 ⊢
  have HB1 := Aside0.mk (show Below w.heap.size w w1 from (below_alloc (Below.refl w.heap.size w) (.cells (nums .u8 em1).toArray 5)).trans (hb1.mono (by simp)))
  obtain ⟨g, cap, rfl, h1, h2⟩ := hO1.form (by decide)
  have HC1 := Aside0.mk (show w1.cell? ⟨g, 0, none⟩ = some (.int .u8 7) from by
    have := World.ownsRow.cells hO1 (g := g) rfl 0 (.int .u8 7) rfl
    rwa [add_plain] at this)
  clear hO1 hb1 h1 h2
  go_wp2_with fail
  refine (decNil (some ⟨w1.heap.size, 0, none⟩) 12 em2 _ (lit_reads w1 em2 (by decide)) (by decide) b2).mono ?_
  rintro e w2 ⟨v2, rfl, hO2, hb2⟩
  rw [dec2]
  have HBx := Aside0.mk (show Below w1.heap.size w1 w2 from (below_alloc (Below.refl w1.heap.size w1) (.cells (nums .u8 em2).toArray 5)).trans (hb2.mono (by simp)))
  have HB2 := Aside0.mk (HB1.out.trans (HBx.out.mono HB1.out.size))
  have hc := pw_cell_below HBx.out HC1.out
  clear hO2 hb2
  go_wp2_with fail
  go_ret
  exact ⟨rfl, HB2.out⟩
theorem few_any (g K : Nat) (A : Nat → Option Addr) (n c : Nat → Nat) (r : Bool) (w : World) (hcell : ∀ i, i < K → w.cell? ⟨g, i, none⟩ = some (.slice (A i) (n i) (c i))) (hK : K ≤ 10) (hr : r = true ↔ ∀ i, i < K → n i ≤ 1200) (hn : ∀ i, n i ≤ 9223372036854775807) :
    Calls Try.prog 24 #[.slice (some ⟨g, 0, none⟩) K K] w fun e w' => e = .returned (.bool r) ∧ Below w.heap.size w w' := by
  have HR := Aside0.mk hr
  have HC := Aside0.mk hcell
  have HB0 := Aside0.mk (Below.refl w.heap.size w)
  clear hr hcell
  go_enter Try.func24, Try.ntmps24
  go_wp2_with fail
  go_loopw [7] (fun v7 wr => ∃ i : Nat, v7 = .int .i64 i ∧ Aside0 (i ≤ K ∧ ∀ j, j < i → n j ≤ 1200) ∧ Aside0 (Below w.heap.size w wr)) (fun v7 _ => K - (intOf v7).toNat)
  case atStart => exact ⟨0, rfl, ⟨by omega, fun j hj => by omega⟩, HB0⟩
  case round =>
    obtain ⟨i, rfl, HI, HB⟩ := hrel
    by_cases hlt : i < K
    · have HLT := Aside0.mk hlt
      have hlt' : decide ((i : Int) < (K : Int)) = true := by simp; omega
      have hlt2 : decide (i < K) = true := by simp; omega
      have hc := pw_cell_below HB.out (HC.out i hlt)
      have hw3 : wrap64 ((i : Int) + 1) = (i : Int) + 1 := by unfold wrap64; omega
      have HN := Aside0.mk hn
      clear hn
      by_cases hl : n i ≤ 1200
      · have d1 : decide ((n i : Int) > 1200) = false := by simp; omega
        have d2 : decide (n i > 1200) = false := by simp; omega
        have HNI := Aside0.mk hl
        clear hl
        go_wp2_with fail
        go_roundw
        case rel => exact ⟨i + 1, congrArg (Value.int .i64) (by omega), ⟨HLT.out, fun j hj => by
          rcases Nat.lt_succ_iff_lt_or_eq.1 hj with h | rfl
          · exact HI.out.2 j h
          · exact HNI.out⟩, HB⟩
        case measure => exact msr1 i K HLT.out
      · have d1 : decide ((n i : Int) > 1200) = true := by simp; omega
        have d2 : decide (n i > 1200) = true := by simp; omega
        have hrf : r = false := by
          cases r
          · rfl
          · exact absurd (HR.out.1 rfl i hlt) hl
        clear hl
        go_wp2_with fail
        go_ret
        exact ⟨by rw [hrf]; rfl, HB.out⟩
    · obtain rfl : i = K := by have := HI.out.1; omega
      have hrt : r = true := HR.out.2 HI.out.2
      have hlt' : decide ((i : Int) < (i : Int)) = false := by simp
      go_wp2_with fail
      go_ret
      exact ⟨by rw [hrt]; rfl, HB.out⟩
end Go.Proofs.Ytcjphioimmgbfaa.Tra
