/- What sha256's small functions come to: turned and its closure, start, keys; the reference's turn, k, Start. -/
import Derived.Test.YtpllmkcbkdahbaaPturnx1
import Derived.Test.YtpllmkcbkdahbaaPkx1
import Derived.Test.YtpllmkcbkdahbaaPPadx1
import Derived.Test.YtpllmkcbkdahbaaPsamex1
import Derived.Deep.RegionLaw
import Derived.Outline
import Derived.Deep.DeepCutAuto
import Derived.BigQuiet
import Derived.Deep.QuietTactic
import Derived.WalkSpells
namespace Go.Proofs.Ytpllmkcbkdahbaa.Sha
open Go.RowKit Go.Proofs.YtpllmkcbkdahbaaW.PrintWords Go.Proofs.YtpllmkcbkdahbaaW.PrintLast Go.Proofs.YtpllmkcbkdahbaaW.PrintMore Go.Proofs.Ytpllmkcbkdahbaa.Pturn Go.Proofs.Ytpllmkcbkdahbaa.Pk Go.Proofs.Ytpllmkcbkdahbaa.PPad Go.Proofs.Ytpllmkcbkdahbaa.Psame
set_option linter.unusedVariables false
set_option linter.unusedSimpArgs false

/-- A word turned right. -/
def rot (x n : Int) : Int := Go.bits .or .u32 (x / 2 ^ n.toNat) (x * 2 ^ (32 - n).toNat % 4294967296)
/-- Turned, or shifted by what is below nought. -/
def turnC (x n : Int) : Int := if n < 0 then x / 2 ^ (-n).toNat else rot x n
def turned3 (x a b c : Int) : Int := Go.bits .xor .u32 (Go.bits .xor .u32 (turnC x a) (turnC x b)) (turnC x c)

theorem turnC_any (x n : Int) (a : Addr) (w : World) (hc : w.cell? a = some (.int .u32 x)) (h0 : -31 ≤ n) (h1 : n ≤ 31) :
    Calls Try.prog 21 #[.int .i64 n, .pointer (some a)] w fun e w' => e = .returned (.int .u32 (turnC x n)) ∧ Drawn0 w w' := by
  by_cases h : n < 0
  · have hT := Aside0.mk (show turnC x n = x / 2 ^ (-n).toNat from if_pos h)
    have hn : decide (n < 0) = true := by simp; omega
    go_enter Try.func21, Try.ntmps21
    go_wp2
    go_ret
    exact ⟨by rw [hT.out]; rfl, Drawn0.refl _⟩
  · have hT := Aside0.mk (show turnC x n = rot x n from if_neg h)
    have h2 : 0 ≤ n := by omega
    have hn : decide (n < 0) = false := by simp; omega
    go_enter Try.func21, Try.ntmps21
    go_wp2
    go_quiet (fail)
    go_wp2
    go_ret
    exact ⟨by rw [hT.out]; rfl, ⟨⟨_, rfl⟩⟩⟩

theorem turned_any (x a b c : Int) (w : World) (ha : -31 ≤ a ∧ a ≤ 31) (hb : -31 ≤ b ∧ b ≤ 31) (hc : -31 ≤ c ∧ c ≤ 31) :
    Calls Try.prog 17 #[.int .u32 x, .int .i64 a, .int .i64 b, .int .i64 c] w fun e w' => e = .returned (.int .u32 (turned3 x a b c)) ∧ Below w.heap.size w w' := by
  have HB := Aside0.mk (below_alloc (Below.refl w.heap.size w) (.cells #[.int .u32 x] 27))
  obtain ⟨a0, a1⟩ := ha
  obtain ⟨b0, b1⟩ := hb
  obtain ⟨c0, c1⟩ := hc
  have h0 : (w.alloc (.cells #[.int .u32 x] 27)).cell? ⟨w.heap.size, 0, none⟩ = some (.int .u32 x) := by simp
  go_enter Try.func17, Try.ntmps17
  go_wp2_with fail
  refine (turnC_any x a ⟨w.heap.size, 0, none⟩ _ (by simp) a0 a1).mono ?_
  rintro e w1 ⟨rfl, ⟨⟨m1, rfl⟩⟩⟩
  go_wp2_with fail
  refine (turnC_any x b ⟨w.heap.size, 0, none⟩ _ (by simp) b0 b1).mono ?_
  rintro e w1 ⟨rfl, ⟨⟨m2, rfl⟩⟩⟩
  go_wp2_with fail
  refine (turnC_any x c ⟨w.heap.size, 0, none⟩ _ (by simp) c0 c1).mono ?_
  rintro e w1 ⟨rfl, ⟨⟨m3, rfl⟩⟩⟩
  go_wp2_with fail
  go_ret
  exact ⟨rfl, by repeat (first | exact HB.out | apply pw_below_drewN)⟩

/-- The reference's turn. -/
theorem turnRef (x n : Int) (w : World) (h0 : 0 ≤ n) (h1 : n ≤ 31) (hx : 0 ≤ x) :
    Calls Try.prog 19 #[.int .u32 x, .int .i64 n] w fun e w' => e = .returned (.int .u32 (rot x n)) ∧ Drawn0 w w' := by
  refine sconceref11_turn.calls x n _ w ?_
  unfold sconceref11_turn.f
  have e1 : IntKind.u64.wrap n = n := by rw [IntKind.wrap_u64]; omega
  have e2 : wrap64 (32 - n) = 32 - n := by unfold wrap64; omega
  have e3 : IntKind.u64.wrap (32 - n) = 32 - n := by rw [IntKind.wrap_u64]; omega
  rw [e2, e1, e3, if_pos h0, if_pos (by omega)]
  have e4 : shr .u32 x n = x / 2 ^ n.toNat := by unfold shr; rw [Nat.min_eq_left (by show n.toNat ≤ 32; omega)]
  have e5 : shl .u32 x (32 - n) = x * 2 ^ (32 - n).toNat % 4294967296 := by unfold shl; rw [Nat.min_eq_left (by show (32 - n).toNat ≤ 32; omega), IntKind.wrap_u32]
  rw [e4, e5]
  rfl
end Go.Proofs.Ytpllmkcbkdahbaa.Sha
