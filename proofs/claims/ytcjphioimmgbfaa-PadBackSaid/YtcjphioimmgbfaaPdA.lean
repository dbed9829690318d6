/- Words: Less, Zero, Equal, Select, as plain tests. -/
import Derived.Test.YtcjphioimmgbfaaTrNone
import Derived.Shelf.Spec.BitsCarry
namespace Go.Proofs.Ytcjphioimmgbfaa.Tra
open Go.RowKit Go.Proofs.YtcjphioimmgbfaaW.PrintWords Go.Proofs.YtcjphioimmgbfaaW.PrintLast Go.Proofs.YtcjphioimmgbfaaW.PrintMore Go.Proofs.Ytcjphioimmgbfaa.PTraceActs
set_option linter.unusedVariables false
set_option linter.unusedSimpArgs false

def b2i (p : Bool) : Int := if p then 1 else 0
def selI (p : Bool) (x y : Int) : Int := if p then x else y
def U64 (x : Int) : Prop := 0 ≤ x ∧ x < 18446744073709551616
theorem andNot_b2i (p q : Bool) : Go.bits .andNot .u64 (b2i p) (b2i q) = b2i (p && !q) := by cases p <;> cases q <;> decide +kernel
theorem and_b2i (p q : Bool) : Go.bits .and .u64 (b2i p) (b2i q) = b2i (p && q) := by cases p <;> cases q <;> decide +kernel
theorem or_b2i (p q : Bool) : Go.bits .or .u64 (b2i p) (b2i q) = b2i (p || q) := by cases p <;> cases q <;> decide +kernel
theorem sub64_0 (x y : Int) (hx : U64 x) (hy : U64 y) (w : World) : (callFunc 45 #[.int .u64 x, .int .u64 y, .int .u64 0]).run Try.prog w =
    .ok (.value (.tuple #[.int .u64 ((x - y) % 18446744073709551616), .int .u64 (b2i (decide (x < y)))])) w := by
  obtain ⟨x, rfl⟩ := Int.eq_ofNat_of_zero_le hx.1
  obtain ⟨y, rfl⟩ := Int.eq_ofNat_of_zero_le hy.1
  have h1 := hx.2
  have h2 := hy.2
  have e1 : (((x + 18446744073709551616 - y - 0) % 18446744073709551616 : Nat) : Int) = ((x : Int) - y) % 18446744073709551616 := by omega
  have e2 : ((if x < y + 0 then 1 else 0 : Nat) : Int) = b2i (decide ((x : Int) < y)) := by
    unfold b2i
    by_cases h : x < y
    · simp [h]
    · simp [h]
  rw [← e1, ← e2]
  refine (show (callFunc 45 #[.int .u64 x, .int .u64 y, .int .u64 ((0 : Nat) : Int)]).run Try.prog w = _ from ?_)
  rw [run_callFunc_extern (show Try.prog.funcs[45]? = some Try.f45 by kernel_rfl) (by kernel_rfl) (by kernel_rfl) (by kernel_rfl) (e := sub64Entry) (by kernel_rfl), run_sub64 x y 0 (by omega)]
  rfl
theorem less_any (x y : Int) (w : World) (hx : U64 x) (hy : U64 y) : Calls Try.prog 37 #[.int .u64 x, .int .u64 y] w fun e w' => e = .returned (.int .u64 (b2i (decide (x < y)))) ∧ w' = w := by
  have h := sub64_0 x y hx hy
  go_enter Try.func37, Try.ntmps37
  go_wp2_with fail
  go_ret
  exact ⟨rfl, rfl⟩
def bv6 (x : Int) : BitVec 64 := BitVec.ofInt 64 x
theorem bv6_nat (v : BitVec 64) : bv6 (v.toNat : Int) = v := by
  unfold bv6
  apply BitVec.eq_of_toNat_eq
  rw [BitVec.toNat_ofInt]
  have := v.isLt
  show ((v.toNat : Int) % ((2 ^ 64 : Nat) : Int)).toNat = v.toNat
  omega
theorem wrap_bv6 (v : BitVec 64) : IntKind.u64.wrap (v.toNat : Int) = (v.toNat : Int) := by
  rw [IntKind.wrap_u64]
  have := v.isLt
  omega
theorem or64 (x y : Int) : Go.bits .or .u64 x y = ((bv6 x ||| bv6 y).toNat : Int) := wrap_bv6 _
theorem xor64 (x y : Int) : Go.bits .xor .u64 x y = ((bv6 x ^^^ bv6 y).toNat : Int) := wrap_bv6 _
theorem and64 (x y : Int) : Go.bits .and .u64 x y = ((bv6 x &&& bv6 y).toNat : Int) := wrap_bv6 _
theorem bv6_to (x : Int) (h : U64 x) : ((bv6 x).toNat : Int) = x := by
  unfold bv6
  rw [BitVec.toNat_ofInt]
  have h1 := h.1
  have h2 := h.2
  show ((x % ((2 ^ 64 : Nat) : Int)).toNat : Int) = x
  omega
theorem bits64_u (op : BinOp) (x y : Int) : U64 (Go.bits op .u64 x y) := by
  show U64 (IntKind.u64.wrap _)
  rw [IntKind.wrap_u64]
  unfold U64
  omega
theorem zero_plain (a : Int) (ha : U64 a) : Go.bits .xor .u64 1 (Go.bits .or .u64 a (IntKind.u64.wrap (-a)) / 9223372036854775808) = b2i (decide (a = 0)) := by
  by_cases h : a = 0
  · subst h
    decide +kernel
  · have h0 := ha.1
    have h1 := ha.2
    have hw : U64 (IntKind.u64.wrap (-a)) := by rw [IntKind.wrap_u64]; unfold U64; omega
    have e1 := bv6_to a ha
    have e2 := bv6_to _ hw
    have l1 : (bv6 a).toNat ≤ (bv6 a ||| bv6 (IntKind.u64.wrap (-a))).toNat := by rw [BitVec.toNat_or]; exact Nat.left_le_or
    have l2 : (bv6 (IntKind.u64.wrap (-a))).toNat ≤ (bv6 a ||| bv6 (IntKind.u64.wrap (-a))).toNat := by rw [BitVec.toNat_or]; exact Nat.right_le_or
    have l3 := (bv6 a ||| bv6 (IntKind.u64.wrap (-a))).isLt
    have e3 : Go.bits .or .u64 a (IntKind.u64.wrap (-a)) / 9223372036854775808 = 1 := by
      rw [or64]
      rw [IntKind.wrap_u64] at e2 l1 l2 l3 ⊢
      omega
    rw [e3]
    unfold b2i
    simp [h]
    decide +kernel
set_option maxRecDepth 100000 in
theorem zero_any (a : Int) (w : World) (ha : U64 a) : Calls Try.prog 41 #[.int .u64 a] w fun e w' => e = .returned (.int .u64 (b2i (decide (a = 0)))) ∧ w' = w := by
  have HZ := Aside0.mk (zero_plain a ha)
  go_enter Try.func41, Try.ntmps41
  go_wp2_with fail
  go_ret
  exact ⟨congrArg (fun x => Ending.returned (.int .u64 x)) HZ.out, rfl⟩
theorem xor_zero (x y : Int) (hx : U64 x) (hy : U64 y) : decide (Go.bits .xor .u64 x y = 0) = decide (x = y) := by
  rw [decide_eq_decide, xor64]
  constructor
  · intro h
    have h2 : (bv6 x ^^^ bv6 y) = 0#64 := by
      apply BitVec.eq_of_toNat_eq
      rw [BitVec.toNat_zero]
      omega
    have h3 := BitVec.xor_eq_zero_iff.1 h2
    rw [← bv6_to x hx, ← bv6_to y hy, h3]
  · rintro rfl
    simp
theorem equal_any (x y : Int) (w : World) (hx : U64 x) (hy : U64 y) : Calls Try.prog 39 #[.int .u64 x, .int .u64 y] w fun e w' => e = .returned (.int .u64 (b2i (decide (x = y)))) ∧ w' = w := by
  have HZ := Aside0.mk (xor_zero x y hx hy)
  have hU := bits64_u .xor x y
  go_enter Try.func39, Try.ntmps39
  go_wp2_with fail
  refine (zero_any _ _ hU).mono ?_
  rintro e w1 ⟨rfl, rfl⟩
  go_wp2_with fail
  go_ret
  rw [← HZ.out]
  exact ⟨rfl, rfl⟩
def maskI (p : Bool) : Int := if p then 18446744073709551615 else 0
theorem mask_any (p : Bool) (w : World) : Calls Try.prog 46 #[.int .u64 (b2i p)] w fun e w' => e = .returned (.int .u64 (maskI p)) ∧ w' = w := by
  have HM := Aside0.mk (show IntKind.u64.wrap (-(Go.bits .and .u64 (b2i p) 1)) = maskI p from by cases p <;> decide +kernel)
  go_enter Try.func46, Try.ntmps46
  go_wp2_with fail
  go_ret
  exact ⟨congrArg (fun x => Ending.returned (.int .u64 x)) HM.out, rfl⟩
theorem select_plain (p : Bool) (x y : Int) (hx : U64 x) (hy : U64 y) : Go.bits .or .u64 (Go.bits .and .u64 x (maskI p)) (Go.bits .andNot .u64 y (maskI p)) = selI p x y := by
  have e1 := bv6_to x hx
  have e2 := bv6_to y hy
  have hn : ∀ m : Int, Go.bits .andNot .u64 y m = ((bv6 y &&& ~~~ bv6 m).toNat : Int) := fun m => wrap_bv6 _
  rw [or64, and64, hn, bv6_nat, bv6_nat]
  have k0 : ~~~(0#64) = BitVec.allOnes 64 := by decide +kernel
  have k1 : ~~~(BitVec.allOnes 64) = 0#64 := by decide +kernel
  cases p
  · rw [show bv6 (maskI false) = 0#64 from by decide +kernel, k0, BitVec.and_allOnes, BitVec.and_zero, BitVec.zero_or]
    exact e2
  · rw [show bv6 (maskI true) = BitVec.allOnes 64 from by decide +kernel, k1, BitVec.and_allOnes, BitVec.and_zero, BitVec.or_zero]
    exact e1
theorem select_any (p : Bool) (x y : Int) (w : World) (hx : U64 x) (hy : U64 y) : Calls Try.prog 40 #[.int .u64 (b2i p), .int .u64 x, .int .u64 y] w fun e w' => e = .returned (.int .u64 (selI p x y)) ∧ w' = w := by
  have HS := Aside0.mk (select_plain p x y hx hy)
  go_enter Try.func40, Try.ntmps40
  go_wp2_with fail
  refine (mask_any p _).mono ?_
  rintro e w1 ⟨rfl, rfl⟩
  go_wp2_with fail
  go_ret
  exact ⟨congrArg (fun x => Ending.returned (.int .u64 x)) HS.out, rfl⟩
end Go.Proofs.Ytcjphioimmgbfaa.Tra
