/- The walk of the law Sha256Sums. -/
import Derived.Test.YtpllmkcbkdahbaaShAwake
import Derived.Test.YtpllmkcbkdahbaaShSumR
namespace Go.Proofs.Ytpllmkcbkdahbaa.Sha
open Go.RowKit Go.Proofs.YtpllmkcbkdahbaaW.PrintWords Go.Proofs.YtpllmkcbkdahbaaW.PrintLast Go.Proofs.YtpllmkcbkdahbaaW.PrintMore
set_option linter.unusedVariables false
set_option linter.unusedSimpArgs false

theorem sumsWalk (A : Option Addr) (c : Nat) (b : List Int) (w : World) (hr : ReadsInt w .u8 A b.length b) (hc : b.length ≤ c) :
    Calls Try.prog 3 #[.slice A b.length c] w fun e w' => e = .returned (.bool true) ∧ Below w.heap.size w w' := by
  have HR := Aside0.mk hr
  have HC := Aside0.mk hc
  clear hr hc
  go_enter Try.func3, Try.ntmps3
  go_wp2_with fail
  refine (awake_any _).mono ?_
  rintro e w1 ⟨rfl, hb1⟩
  have HB1 := Aside0.mk hb1
  clear hb1
  by_cases hlen : b.length > 3000
  · have hlen' : decide ((b.length : Int) > 3000) = true := by simp; omega
    go_wp2_with fail
    go_ret
    exact ⟨rfl, HB1.out⟩
  · have hlen' : decide ((b.length : Int) > 3000) = false := by simp; omega
    go_wp2_with fail
    refine (sumA A c b _ (HR.out.below HB1.out) HC.out (by omega)).mono ?_
    rintro e w2 ⟨v2, rfl, hO2, hb2⟩
    have HB2 := Aside0.mk (HB1.out.trans (hb2.mono HB1.out.size))
    have HO2 := Aside0.mk (own_less hO2 HB1.out.size)
    clear hO2 hb2
    go_wp2_with fail
    refine (sumR A c b _ (HR.out.below HB2.out) HC.out (by omega)).mono ?_
    rintro e w3 ⟨v3, rfl, hO3, hb3⟩
    have HB3 := Aside0.mk (HB2.out.trans (hb3.mono HB2.out.size))
    have HO3 := Aside0.mk (own_less hO3 HB2.out.size)
    have HO4 := Aside0.mk (own_keep HO2.out hb3)
    clear hO3 hb3
    go_wp2_with fail
    refine (same_own HO4.out HO3.out).mono ?_
    rintro e w4 ⟨rfl, hd⟩
    have HB4 := Aside0.mk (HB3.out.trans (hd.below.mono HB3.out.size))
    clear hd
    go_wp2_with fail
    go_ret
    exact ⟨rfl, HB4.out⟩
end Go.Proofs.Ytpllmkcbkdahbaa.Sha
