/- The walk of the law Sha256Pads. -/
import Derived.Test.YtpllmkcbkdahbaaShAwake
namespace Go.Proofs.Ytpllmkcbkdahbaa.Sha
open Go.RowKit Go.Proofs.YtpllmkcbkdahbaaW.PrintWords Go.Proofs.YtpllmkcbkdahbaaW.PrintLast Go.Proofs.YtpllmkcbkdahbaaW.PrintMore Go.Proofs.Ytpllmkcbkdahbaa.PPad
set_option linter.unusedVariables false
set_option linter.unusedSimpArgs false

theorem own_block {w : World} {B g : Nat} {l : List Int} (h : w.heap[g]? = some (.cells (nums .u8 l).toArray 5)) (hB : B ≤ g) (hl : l.length ≤ 1000) : w.ownsRow B 5 1 (.slice (some ⟨g, 0, none⟩) l.length l.length) l.length (nums .u8 l) :=
  ⟨by simp [nums], .inr ⟨g, l.length, _, rfl, hB, h, Nat.le_refl _, by simp [maxLen]; omega, by simp [nums], by simp [nums, List.take_of_length_le]⟩⟩
theorem padRef_own (n : Int) (m : Nat) (w : World) (hm : (if n < 0 then 0 else n) = (m : Int)) (h63 : m ≤ 9223372036854775807) :
    Calls Try.prog 14 #[.int .i64 n] w fun e w' => ∃ v, e = .returned v ∧ w'.ownsRow w.heap.size 5 1 v (padL m).length (nums .u8 (padL m)) ∧ Below w.heap.size w w' := by
  refine (sconceref11_Pad.calls _ n _ w (padRef_f n m hm h63)).mono ?_
  rintro e w' ⟨v, rfl, hR, hB⟩
  exact ⟨v, rfl, Kd.own_of_R hR, hB⟩
theorem padsWalk (n : Int) (w : World) (h0 : -9223372036854775808 ≤ n ∧ n ≤ 9223372036854775807) : Calls Try.prog 5 #[.int .i64 n] w fun e w' => e = .returned (.bool true) ∧ Below w.heap.size w w' := by
  obtain ⟨m, hm, h63⟩ : ∃ m : Nat, (if n < 0 then 0 else n) = (m : Int) ∧ m ≤ 9223372036854775807 := by
    by_cases h : n < 0
    · exact ⟨0, by rw [if_pos h]; rfl, by omega⟩
    · exact ⟨n.toNat, by rw [if_neg h]; omega, by omega⟩
  have HM := Aside0.mk hm
  have HP := Aside0.mk (show (padL m).length ≤ 100 from by rw [padL_length]; unfold padN; omega)
  clear hm
  go_enter Try.func5, Try.ntmps5
  go_wp2_with fail
  refine (awake_any _).mono ?_
  rintro e w1 ⟨rfl, hb1⟩
  have HB1 := Aside0.mk hb1
  clear hb1
  go_wp2_with fail
  refine (padA n m _ HM.out h63).mono ?_
  rintro e w2 ⟨rfl, hg2, hb2⟩
  have HB2 := Aside0.mk (HB1.out.trans (hb2.mono HB1.out.size))
  have HO2 := Aside0.mk (own_block hg2 HB1.out.size (by have := HP.out; omega))
  clear hg2 hb2
  go_wp2_with fail
  refine (padRef_own n m _ HM.out h63).mono ?_
  rintro e w3 ⟨v, rfl, hO3, hb3⟩
  have HB3 := Aside0.mk (HB2.out.trans (hb3.mono HB2.out.size))
  have HO3 := Aside0.mk (own_less hO3 HB2.out.size)
  have HO4 := Aside0.mk (own_keep HO2.out hb3)
  clear hO3 hb3
  go_wp2_with fail
  refine (same_own HO4.out HO3.out).mono ?_
  rintro e w4 ⟨rfl, hd⟩
  have HB4 := Aside0.mk (HB3.out.trans (hd.below.mono HB3.out.size))
  clear hd
  go_wp2_with fail
  go_ret
  exact ⟨rfl, HB4.out⟩
end Go.Proofs.Ytpllmkcbkdahbaa.Sha
