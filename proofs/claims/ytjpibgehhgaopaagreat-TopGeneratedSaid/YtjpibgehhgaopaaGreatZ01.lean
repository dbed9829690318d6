/- Words: sums, differences, products, masks, as plain numbers; memory's numbers. -/
import Derived.Test.YtjpibgehhgaopaaGreatTx0
import Derived.Test.YtjpibgehhgaopaaGreatProg
import Derived.Shelf.Spec.BitsCarry
import Derived.Shelf.Strconv.Itoa0
import Derived.Shelf.Bits.Mul64
import Derived.Deep.RegionLaw
import Derived.Outline
import Derived.BigRegion
import Derived.Deep.RegionHeld3
import Derived.Deep.DeepCutAuto
import Derived.Deep.QuietTactic
import Derived.BigQuiet
import Derived.Lib.Hide
import Derived.WalkSpells
namespace Go.Proofs.YtjpibgehhgaopaaGreat.Top
open Go.RowKit Go.Proofs.YtjpibgehhgaopaaGreatW.PrintWords Go.Proofs.YtjpibgehhgaopaaGreatW.PrintLast
set_option linter.unusedVariables false
set_option linter.unusedSimpArgs false

def b2i (p : Bool) : Int := if p then 1 else 0
def selI (p : Bool) (x y : Int) : Int := if p then x else y
def U64 (x : Int) : Prop := 0 ≤ x ∧ x < 18446744073709551616
theorem andNot_b2i (p q : Bool) : Go.bits .andNot .u64 (b2i p) (b2i q) = b2i (p && !q) := by cases p <;> cases q <;> decide +kernel
theorem and_b2i (p q : Bool) : Go.bits .and .u64 (b2i p) (b2i q) = b2i (p && q) := by cases p <;> cases q <;> decide +kernel
theorem or_b2i (p q : Bool) : Go.bits .or .u64 (b2i p) (b2i q) = b2i (p || q) := by cases p <;> cases q <;> decide +kernel
theorem sub64_0 (x y : Int) (hx : U64 x) (hy : U64 y) (w : World) : (callFunc 158 #[.int .u64 x, .int .u64 y, .int .u64 0]).run Tryz.prog w =
    .ok (.value (.tuple #[.int .u64 ((x - y) % 18446744073709551616), .int .u64 (b2i (decide (x < y)))])) w := by
  obtain ⟨x, rfl⟩ := Int.eq_ofNat_of_zero_le hx.1
  obtain ⟨y, rfl⟩ := Int.eq_ofNat_of_zero_le hy.1
  have h1 := hx.2
  have h2 := hy.2
  have e1 : (((x + 18446744073709551616 - y - 0) % 18446744073709551616 : Nat) : Int) = ((x : Int) - y) % 18446744073709551616 := by omega
  have e2 : ((if x < y + 0 then 1 else 0 : Nat) : Int) = b2i (decide ((x : Int) < y)) := by
    unfold b2i
    by_cases h : x < y
    · simp [h]
    · simp [h]
  rw [← e1, ← e2]
  refine (show (callFunc 158 #[.int .u64 x, .int .u64 y, .int .u64 ((0 : Nat) : Int)]).run Tryz.prog w = _ from ?_)
  rw [run_callFunc_extern (show Tryz.prog.funcs[158]? = some Tryz.f158 by kernel_rfl) (by kernel_rfl) (by kernel_rfl) (by kernel_rfl) (e := sub64Entry) (by kernel_rfl), run_sub64 x y 0 (by omega)]
  rfl
theorem less_any (x y : Int) (w : World) (hx : U64 x) (hy : U64 y) : Calls Tryz.prog 109 #[.int .u64 x, .int .u64 y] w fun e w' => e = .returned (.int .u64 (b2i (decide (x < y)))) ∧ w' = w := by
  have h := sub64_0 x y hx hy
  go_enter Tryz.func109, Tryz.ntmps109
  go_wp2_with fail
  go_ret
  exact ⟨rfl, rfl⟩
def bv6 (x : Int) : BitVec 64 := BitVec.ofInt 64 x
theorem bv6_nat (v : BitVec 64) : bv6 (v.toNat : Int) = v := by
  unfold bv6
  apply BitVec.eq_of_toNat_eq
  rw [BitVec.toNat_ofInt]
  have := v.isLt
  show ((v.toNat : Int) % ((2 ^ 64 : Nat) : Int)).toNat = v.toNat
  omega
theorem wrap_bv6 (v : BitVec 64) : IntKind.u64.wrap (v.toNat : Int) = (v.toNat : Int) := by
  rw [IntKind.wrap_u64]
  have := v.isLt
  omega
theorem or64 (x y : Int) : Go.bits .or .u64 x y = ((bv6 x ||| bv6 y).toNat : Int) := wrap_bv6 _
theorem xor64 (x y : Int) : Go.bits .xor .u64 x y = ((bv6 x ^^^ bv6 y).toNat : Int) := wrap_bv6 _
theorem and64 (x y : Int) : Go.bits .and .u64 x y = ((bv6 x &&& bv6 y).toNat : Int) := wrap_bv6 _
theorem bv6_to (x : Int) (h : U64 x) : ((bv6 x).toNat : Int) = x := by
  unfold bv6
  rw [BitVec.toNat_ofInt]
  have h1 := h.1
  have h2 := h.2
  show ((x % ((2 ^ 64 : Nat) : Int)).toNat : Int) = x
  omega
theorem bits64_u (op : BinOp) (x y : Int) : U64 (Go.bits op .u64 x y) := by
  show U64 (IntKind.u64.wrap _)
  rw [IntKind.wrap_u64]
  unfold U64
  omega
theorem zero_plain (a : Int) (ha : U64 a) : Go.bits .xor .u64 1 (Go.bits .or .u64 a (IntKind.u64.wrap (-a)) / 9223372036854775808) = b2i (decide (a = 0)) := by
  by_cases h : a = 0
  · subst h
    decide +kernel
  · have h0 := ha.1
    have h1 := ha.2
    have hw : U64 (IntKind.u64.wrap (-a)) := by rw [IntKind.wrap_u64]; unfold U64; omega
    have e1 := bv6_to a ha
    have e2 := bv6_to _ hw
    have l1 : (bv6 a).toNat ≤ (bv6 a ||| bv6 (IntKind.u64.wrap (-a))).toNat := by rw [BitVec.toNat_or]; exact Nat.left_le_or
    have l2 : (bv6 (IntKind.u64.wrap (-a))).toNat ≤ (bv6 a ||| bv6 (IntKind.u64.wrap (-a))).toNat := by rw [BitVec.toNat_or]; exact Nat.right_le_or
    have l3 := (bv6 a ||| bv6 (IntKind.u64.wrap (-a))).isLt
    have e3 : Go.bits .or .u64 a (IntKind.u64.wrap (-a)) / 9223372036854775808 = 1 := by
      rw [or64]
      rw [IntKind.wrap_u64] at e2 l1 l2 l3 ⊢
      omega
    rw [e3]
    unfold b2i
    simp [h]
    decide +kernel
set_option maxRecDepth 100000 in
theorem zero_any (a : Int) (w : World) (ha : U64 a) : Calls Tryz.prog 112 #[.int .u64 a] w fun e w' => e = .returned (.int .u64 (b2i (decide (a = 0)))) ∧ w' = w := by
  have HZ := Aside0.mk (zero_plain a ha)
  go_enter Tryz.func112, Tryz.ntmps112
  go_wp2_with fail
  go_ret
  exact ⟨congrArg (fun x => Ending.returned (.int .u64 x)) HZ.out, rfl⟩
theorem xor_zero (x y : Int) (hx : U64 x) (hy : U64 y) : decide (Go.bits .xor .u64 x y = 0) = decide (x = y) := by
  rw [decide_eq_decide, xor64]
  constructor
  · intro h
    have h2 : (bv6 x ^^^ bv6 y) = 0#64 := by
      apply BitVec.eq_of_toNat_eq
      rw [BitVec.toNat_zero]
      omega
    have h3 := BitVec.xor_eq_zero_iff.1 h2
    rw [← bv6_to x hx, ← bv6_to y hy, h3]
  · rintro rfl
    simp
theorem equal_any (x y : Int) (w : World) (hx : U64 x) (hy : U64 y) : Calls Tryz.prog 114 #[.int .u64 x, .int .u64 y] w fun e w' => e = .returned (.int .u64 (b2i (decide (x = y)))) ∧ w' = w := by
  have HZ := Aside0.mk (xor_zero x y hx hy)
  have hU := bits64_u .xor x y
  go_enter Tryz.func114, Tryz.ntmps114
  go_wp2_with fail
  refine (zero_any _ _ hU).mono ?_
  rintro e w1 ⟨rfl, rfl⟩
  go_wp2_with fail
  go_ret
  rw [← HZ.out]
  exact ⟨rfl, rfl⟩
def maskI (p : Bool) : Int := if p then 18446744073709551615 else 0
theorem mask_any (p : Bool) (w : World) : Calls Tryz.prog 137 #[.int .u64 (b2i p)] w fun e w' => e = .returned (.int .u64 (maskI p)) ∧ w' = w := by
  have HM := Aside0.mk (show IntKind.u64.wrap (-(Go.bits .and .u64 (b2i p) 1)) = maskI p from by cases p <;> decide +kernel)
  go_enter Tryz.func137, Tryz.ntmps137
  go_wp2_with fail
  go_ret
  exact ⟨congrArg (fun x => Ending.returned (.int .u64 x)) HM.out, rfl⟩
theorem select_plain (p : Bool) (x y : Int) (hx : U64 x) (hy : U64 y) : Go.bits .or .u64 (Go.bits .and .u64 x (maskI p)) (Go.bits .andNot .u64 y (maskI p)) = selI p x y := by
  have e1 := bv6_to x hx
  have e2 := bv6_to y hy
  have hn : ∀ m : Int, Go.bits .andNot .u64 y m = ((bv6 y &&& ~~~ bv6 m).toNat : Int) := fun m => wrap_bv6 _
  rw [or64, and64, hn, bv6_nat, bv6_nat]
  have k0 : ~~~(0#64) = BitVec.allOnes 64 := by decide +kernel
  have k1 : ~~~(BitVec.allOnes 64) = 0#64 := by decide +kernel
  cases p
  · rw [show bv6 (maskI false) = 0#64 from by decide +kernel, k0, BitVec.and_allOnes, BitVec.and_zero, BitVec.zero_or]
    exact e2
  · rw [show bv6 (maskI true) = BitVec.allOnes 64 from by decide +kernel, k1, BitVec.and_allOnes, BitVec.and_zero, BitVec.or_zero]
    exact e1
theorem select_any (p : Bool) (x y : Int) (w : World) (hx : U64 x) (hy : U64 y) : Calls Tryz.prog 113 #[.int .u64 (b2i p), .int .u64 x, .int .u64 y] w fun e w' => e = .returned (.int .u64 (selI p x y)) ∧ w' = w := by
  have HS := Aside0.mk (select_plain p x y hx hy)
  go_enter Tryz.func113, Tryz.ntmps113
  go_wp2_with fail
  refine (mask_any p _).mono ?_
  rintro e w1 ⟨rfl, rfl⟩
  go_wp2_with fail
  go_ret
  exact ⟨congrArg (fun x => Ending.returned (.int .u64 x)) HS.out, rfl⟩
end Go.Proofs.YtjpibgehhgaopaaGreat.Top
/- Words, more: sums and differences with a carry, products, lengths in bits: as plain natural numbers. -/
namespace Go.Proofs.YtjpibgehhgaopaaGreat.Top
open Go.RowKit Go.Proofs.YtjpibgehhgaopaaGreatW.PrintWords Go.Proofs.YtjpibgehhgaopaaGreatW.PrintLast
set_option linter.unusedVariables false
set_option linter.unusedSimpArgs false

theorem add64N (x y c : Nat) (hx : x < 18446744073709551616) (hy : y < 18446744073709551616) (hc : c ≤ 1) (w : World) : (callFunc 173 #[.int .u64 (x : Int), .int .u64 (y : Int), .int .u64 (c : Int)]).run Tryz.prog w =
    .ok (.value (.tuple #[.int .u64 (((x + y + c) % 18446744073709551616 : Nat) : Int), .int .u64 (((x + y + c) / 18446744073709551616 : Nat) : Int)])) w := by
  rw [run_callFunc_extern (show Tryz.prog.funcs[173]? = some Tryz.f173 by kernel_rfl) (by kernel_rfl) (by kernel_rfl) (by kernel_rfl) (e := add64Entry) (by kernel_rfl), run_add64 x y c (by omega) (by omega) (by omega) (by omega)]
  simp only [Result.andThen]
  congr 5 <;> omega
theorem add64N0 (x y : Nat) (hx : x < 18446744073709551616) (hy : y < 18446744073709551616) (w : World) : (callFunc 173 #[.int .u64 (x : Int), .int .u64 (y : Int), .int .u64 0]).run Tryz.prog w =
    .ok (.value (.tuple #[.int .u64 (((x + y) % 18446744073709551616 : Nat) : Int), .int .u64 (((x + y) / 18446744073709551616 : Nat) : Int)])) w := add64N x y 0 hx hy (by omega) w
theorem sub64N (x y b : Nat) (hb : b ≤ 1) (w : World) : (callFunc 158 #[.int .u64 (x : Int), .int .u64 (y : Int), .int .u64 (b : Int)]).run Tryz.prog w =
    .ok (.value (.tuple #[.int .u64 (((x + 18446744073709551616 - y - b) % 18446744073709551616 : Nat) : Int), .int .u64 ((if x < y + b then 1 else 0 : Nat) : Int)])) w := by
  rw [run_callFunc_extern (show Tryz.prog.funcs[158]? = some Tryz.f158 by kernel_rfl) (by kernel_rfl) (by kernel_rfl) (by kernel_rfl) (e := sub64Entry) (by kernel_rfl), run_sub64 x y b hb]
  rfl
theorem and_one (c : Nat) (h : c ≤ 1) : Go.bits .and .u64 (c : Int) 1 = (c : Int) := by
  have : c = 0 ∨ c = 1 := by omega
  rcases this with rfl | rfl <;> decide +kernel
theorem addWN (x y c : Nat) (hx : x < 18446744073709551616) (hy : y < 18446744073709551616) (hc : c ≤ 1) (w : World) : Calls Tryz.prog 141 #[.int .u64 (x : Int), .int .u64 (y : Int), .int .u64 (c : Int)] w fun e w' =>
    e = .returned (.tuple #[.int .u64 (((x + y + c) % 18446744073709551616 : Nat) : Int), .int .u64 (((x + y + c) / 18446744073709551616 : Nat) : Int)]) ∧ w' = w := by
  have h := add64N x y c hx hy hc
  have h1 := and_one c hc
  go_enter Tryz.func141, Tryz.ntmps141
  go_wp2_with fail
  refine bodyPost_ret (results_tmp2 rfl _ _ _) rfl ?_
  exact ⟨rfl, rfl⟩
theorem subWN (x y c : Nat) (hc : c ≤ 1) (w : World) : Calls Tryz.prog 213 #[.int .u64 (x : Int), .int .u64 (y : Int), .int .u64 (c : Int)] w fun e w' =>
    e = .returned (.tuple #[.int .u64 (((x + 18446744073709551616 - y - c) % 18446744073709551616 : Nat) : Int), .int .u64 ((if x < y + c then 1 else 0 : Nat) : Int)]) ∧ w' = w := by
  have h := sub64N x y c hc
  have h1 := and_one c hc
  generalize (x + 18446744073709551616 - y - c) % 18446744073709551616 = r1 at h ⊢
  generalize (if x < y + c then 1 else 0) = r2 at h ⊢
  go_enter Tryz.func213, Tryz.ntmps213
  go_wp2_with fail
  refine bodyPost_ret (results_tmp2 rfl _ _ _) rfl ?_
  exact ⟨rfl, rfl⟩
set_option maxHeartbeats 1000000 in
theorem mul64N (x y : Nat) (hx : x < 18446744073709551616) (hy : y < 18446744073709551616) (w : World) :
    Calls Tryz.prog 172 #[.int .u64 (x : Int), .int .u64 (y : Int)] w fun e w' => e = .returned (.tuple #[.int .u64 ((x * y / 18446744073709551616 : Nat) : Int), .int .u64 ((x * y % 18446744073709551616 : Nat) : Int)]) ∧ w' = w := by
  obtain ⟨bd, bt, bw, hhi⟩ := Lib.mul64_hi x y hx hy
  have ba := Lib.half_mul_le (a := x / 4294967296) (b := y / 4294967296) (by omega) (by omega)
  have bb := Lib.half_mul_le (a := x / 4294967296) (b := y % 4294967296) (by omega) (by omega)
  have bc := Lib.half_mul_le (a := x % 4294967296) (b := y / 4294967296) (by omega) (by omega)
  have ba' : x / 4294967296 * (y / 4294967296) < 18446744073709551616 := by omega
  have bb' : x / 4294967296 * (y % 4294967296) < 18446744073709551616 := by omega
  have bc' : x % 4294967296 * (y / 4294967296) < 18446744073709551616 := by omega
  have bh1 : x / 4294967296 * (y / 4294967296) + (x / 4294967296 * (y % 4294967296) + x % 4294967296 * (y % 4294967296) / 4294967296) / 4294967296 < 18446744073709551616 := by omega
  have bh : x / 4294967296 * (y / 4294967296) + (x / 4294967296 * (y % 4294967296) + x % 4294967296 * (y % 4294967296) / 4294967296) / 4294967296 + ((x / 4294967296 * (y % 4294967296) + x % 4294967296 * (y % 4294967296) / 4294967296) % 4294967296 + x % 4294967296 * (y / 4294967296)) / 4294967296 < 18446744073709551616 := by omega
  go_enter Tryz.func172, Tryz.ntmps172
  go_wp2
  simp only [Mul64.maskN x hx, Mul64.maskN y hy, Mul64.divN, Mul64.mulN, Mul64.addN, Mul64.wrapN _ bd, Mul64.wrapN _ bb', Mul64.wrapN _ bt, Mul64.maskN _ bt, Mul64.wrapN _ bc', Mul64.wrapN _ bw, Mul64.wrapN _ ba', Mul64.wrapN _ bh1, Mul64.wrapN _ bh, Mul64.wrapM (x * y)]
  rw [hhi]
  go_ret2
  exact ⟨rfl, rfl⟩
theorem mulW_plain (x y c d : Nat) (hx : x < 18446744073709551616) (hy : y < 18446744073709551616) (hc : c < 18446744073709551616) (hd : d < 18446744073709551616) :
    x * y / 18446744073709551616 + (x * y % 18446744073709551616 + c) / 18446744073709551616 + ((x * y % 18446744073709551616 + c) % 18446744073709551616 + d) / 18446744073709551616 = (x * y + c + d) / 18446744073709551616 ∧
    ((x * y % 18446744073709551616 + c) % 18446744073709551616 + d) % 18446744073709551616 = (x * y + c + d) % 18446744073709551616 ∧ (x * y + c + d) / 18446744073709551616 < 18446744073709551616 := by
  have h : x * y ≤ 18446744073709551615 * 18446744073709551615 := Nat.mul_le_mul (by omega) (by omega)
  generalize x * y = p at *
  omega
theorem wrap_small (a : Nat) (h : a < 18446744073709551616) : (a : Int) % 18446744073709551616 = (a : Int) := by omega
set_option maxRecDepth 100000 in
theorem mulWN (x y c d : Nat) (hx : x < 18446744073709551616) (hy : y < 18446744073709551616) (hc : c < 18446744073709551616) (hd : d < 18446744073709551616) (w : World) :
    Calls Tryz.prog 127 #[.int .u64 (x : Int), .int .u64 (y : Int), .int .u64 (c : Int), .int .u64 (d : Int)] w fun e w' => e = .returned (.tuple #[.int .u64 (((x * y + c + d) / 18446744073709551616 : Nat) : Int), .int .u64 (((x * y + c + d) % 18446744073709551616 : Nat) : Int)]) ∧ w' = w := by
  obtain ⟨h1, h2, h3⟩ := mulW_plain x y c d hx hy hc hd
  have hm := Nat.mod_lt (x * y) (show 0 < 18446744073709551616 by omega)
  have a1 := add64N0 (x * y % 18446744073709551616) c hm hc
  have hm2 := Nat.mod_lt (x * y % 18446744073709551616 + c) (show 0 < 18446744073709551616 by omega)
  have a2 := add64N0 ((x * y % 18446744073709551616 + c) % 18446744073709551616) d hm2 hd
  have hq : x * y / 18446744073709551616 + (x * y % 18446744073709551616 + c) / 18446744073709551616 < 18446744073709551616 := by omega
  obtain ⟨q, hq1⟩ : ∃ q, q = x * y / 18446744073709551616 := ⟨_, rfl⟩
  obtain ⟨m, hm1⟩ : ∃ m, m = x * y % 18446744073709551616 := ⟨_, rfl⟩
  rw [← hq1, ← hm1] at h1 hq
  rw [← hm1] at a1 a2 h2
  obtain ⟨s, hs⟩ : ∃ s, s = (m + c) % 18446744073709551616 := ⟨_, rfl⟩
  obtain ⟨t, ht⟩ : ∃ t, t = (m + c) / 18446744073709551616 := ⟨_, rfl⟩
  rw [← hs] at a1 a2 h1 h2
  rw [← ht] at a1 h1 hq
  obtain ⟨s2, hs2⟩ : ∃ s2, s2 = (s + d) % 18446744073709551616 := ⟨_, rfl⟩
  obtain ⟨t2, ht2⟩ : ∃ t2, t2 = (s + d) / 18446744073709551616 := ⟨_, rfl⟩
  rw [← hs2] at a2 h2
  rw [← ht2] at a2 h1
  obtain ⟨g1, hg1⟩ : ∃ g, g = (x * y + c + d) / 18446744073709551616 := ⟨_, rfl⟩
  obtain ⟨g2, hg2⟩ : ∃ g, g = (x * y + c + d) % 18446744073709551616 := ⟨_, rfl⟩
  rw [← hg1] at h1 h3 ⊢
  rw [← hg2] at h2 ⊢
  have w1 : IntKind.u64.wrap ((q : Int) + (t : Int)) = ((q + t : Nat) : Int) := by rw [IntKind.wrap_u64]; omega
  have w2 : IntKind.u64.wrap (((q + t : Nat) : Int) + (t2 : Int)) = (g1 : Int) := by rw [IntKind.wrap_u64]; omega
  have w3 : IntKind.u64.wrap ((q : Int) + (t : Int) + (t2 : Int)) = (g1 : Int) := by rw [IntKind.wrap_u64]; omega
  have w4 : ((q : Int) + (t : Int) + (t2 : Int)) % 18446744073709551616 = (g1 : Int) := by omega
  have hmul := mul64N x y hx hy
  rw [← hq1, ← hm1] at hmul
  subst h2
  clear hs ht hs2 ht2 hq1 hm1 hm hm2 hg1 hg2
  go_enter Tryz.func127, Tryz.ntmps127
  go_wp2_with fail
  refine (hmul _).mono ?_
  rintro e w' ⟨rfl, rfl⟩
  go_wp2_with fail
  refine bodyPost_ret (results_tmp2 rfl _ _ _) rfl ?_
  refine ⟨?_, rfl⟩
  first | rfl | (rw [w2]) | (rw [w4]) | trace_state
end Go.Proofs.YtjpibgehhgaopaaGreat.Top
/- The division of two words by one: the plain arithmetic. No program in it. -/
namespace Go.Proofs.YtjpibgehhgaopaaGreat.Top
open Go.RowKit
set_option linter.unusedVariables false

/-- The state of a digit's guess: y1, y0: the divisor's halves; u: the upper part; x: the next half. -/
structure Guess (y1 y0 u x q r : Nat) : Prop where
  eq : q * y1 + r = u
  ge : (u * 4294967296 + x) / (y1 * 4294967296 + y0) ≤ q
  le : q ≤ 4294967297
  rl : r < 4294967296
structure Halves (y1 y0 u x : Nat) : Prop where
  h1 : 2147483648 ≤ y1
  h2 : y1 < 4294967296
  h3 : y0 < 4294967296
  hu : u < y1 * 4294967296 + y0
  hx : x < 4294967296
theorem guess_done {y1 y0 u x q r : Nat} (hy : 0 < y1) (h : q * y1 + r = u) (hg : (u * 4294967296 + x) / (y1 * 4294967296 + y0) ≤ q) (hc : q * y0 ≤ 4294967296 * r + x) : q = (u * 4294967296 + x) / (y1 * 4294967296 + y0) := by
  refine Nat.le_antisymm ?_ hg
  rw [Nat.le_div_iff_mul_le (by omega), Nat.mul_add, ← Nat.mul_assoc]
  generalize q * y1 = p at *
  generalize q * y0 = p2 at *
  omega
theorem guess_lt {y1 y0 u x : Nat} (H : Halves y1 y0 u x) : (u * 4294967296 + x) / (y1 * 4294967296 + y0) < 4294967296 := by
  obtain ⟨h1, h2, h3, hu, hx⟩ := H
  rw [Nat.div_lt_iff_lt_mul (by omega)]
  omega
theorem guess_first {y1 y0 u x : Nat} (H : Halves y1 y0 u x) : Guess y1 y0 u x (u / y1) (u % y1) := by
  have hl := guess_lt H
  obtain ⟨h1, h2, h3, hu, hx⟩ := H
  refine ⟨by rw [Nat.mul_comm]; exact Nat.div_add_mod u y1, ?_, ?_, by have := Nat.mod_lt u (show 0 < y1 by omega); omega⟩
  · rw [Nat.le_div_iff_mul_le (by omega)]
    have h := Nat.div_mul_le_self (u * 4294967296 + x) (y1 * 4294967296 + y0)
    generalize (u * 4294967296 + x) / (y1 * 4294967296 + y0) = q at *
    rw [Nat.mul_add, ← Nat.mul_assoc] at h
    generalize q * y1 = p at *
    generalize q * y0 = p2 at *
    omega
  · have : u / y1 < 4294967298 := by
      rw [Nat.div_lt_iff_lt_mul (by omega)]
      omega
    omega
/-- The guess is too great: one less is no less than the digit. -/
theorem guess_down {y1 y0 u x q r : Nat} (H : Halves y1 y0 u x) (h : Guess y1 y0 u x q r) (hc : 4294967296 ≤ q ∨ 4294967296 * r + x < q * y0) : 1 ≤ q ∧ (q - 1) * y1 + (r + y1) = u ∧ (u * 4294967296 + x) / (y1 * 4294967296 + y0) ≤ q - 1 := by
  have hl := guess_lt H
  obtain ⟨h1, h2, h3, hu, hx⟩ := H
  have hq : (u * 4294967296 + x) / (y1 * 4294967296 + y0) < q := by
    rcases hc with hc | hc
    · omega
    · rw [Nat.div_lt_iff_lt_mul (by omega), Nat.mul_add, ← Nat.mul_assoc]
      have := h.eq
      generalize q * y1 = p at *
      generalize q * y0 = p2 at *
      omega
  have h1q : 1 ≤ q := Nat.lt_of_le_of_lt (Nat.zero_le _) hq
  refine ⟨h1q, ?_, Nat.le_sub_one_of_lt hq⟩
  have := h.eq
  rw [Nat.sub_mul, Nat.one_mul]
  have : y1 ≤ q * y1 := Nat.le_mul_of_pos_left _ h1q
  omega
theorem guess_next {y1 y0 u x q r : Nat} (H : Halves y1 y0 u x) (h : Guess y1 y0 u x q r) (hc : 4294967296 ≤ q ∨ 4294967296 * r + x < q * y0) (hr : r + y1 < 4294967296) : Guess y1 y0 u x (q - 1) (r + y1) := by
  obtain ⟨a, b, c⟩ := guess_down H h hc
  exact ⟨b, c, by have := h.le; omega, hr⟩
theorem guess_out {y1 y0 u x q r : Nat} (H : Halves y1 y0 u x) (h : Guess y1 y0 u x q r) (hc : 4294967296 ≤ q ∨ 4294967296 * r + x < q * y0) (hr : 4294967296 ≤ r + y1) : q - 1 = (u * 4294967296 + x) / (y1 * 4294967296 + y0) := by
  obtain ⟨a, b, c⟩ := guess_down H h hc
  refine guess_done (by have := H.h1; omega) b c ?_
  have h1 : (q - 1) * y0 ≤ 4294967296 * 4294967295 := Nat.mul_le_mul (by have := h.le; omega) (by have := H.h3; omega)
  omega
/-- What is left behind a digit. -/
theorem guess_left {y u x q : Nat} (hy : 0 < y) (hq : q = (u * 4294967296 + x) / y) : q * y ≤ u * 4294967296 + x ∧ u * 4294967296 + x - q * y = (u * 4294967296 + x) % y := by
  subst hq
  have h1 := Nat.div_mul_le_self (u * 4294967296 + x) y
  have h2 := Nat.div_add_mod (u * 4294967296 + x) y
  rw [Nat.mul_comm] at h2
  generalize (u * 4294967296 + x) / y * y = p at *
  omega
/-- Two digits are the quotient. -/
theorem two_digits_ {y N x0 b : Nat} (hy : 0 < y) : N / y * b + (N % y * b + x0) / y = (N * b + x0) / y ∧ (N % y * b + x0) % y = (N * b + x0) % y := by
  have h := Nat.div_add_mod N y
  have e : N * b + x0 = (N % y * b + x0) + y * (N / y * b) := by
    have e2 : N * b = y * (N / y) * b + N % y * b := by rw [← Nat.add_mul, h]
    rw [e2, Nat.mul_assoc]
    omega
  rw [e, Nat.add_mul_div_left _ _ hy, Nat.add_mul_mod_self_left]
  exact ⟨Nat.add_comm _ _, rfl⟩
theorem two_digits {y u x1 x0 : Nat} (hy : 0 < y) :
    (u * 4294967296 + x1) / y * 4294967296 + ((u * 4294967296 + x1) % y * 4294967296 + x0) / y = ((u * 4294967296 + x1) * 4294967296 + x0) / y ∧
    ((u * 4294967296 + x1) % y * 4294967296 + x0) % y = ((u * 4294967296 + x1) * 4294967296 + x0) % y := two_digits_ hy
/-- The shifted number's words. -/
theorem shift_words (hi lo y s : Nat) (hs : s ≤ 64) (hy : y * 2 ^ s < 18446744073709551616) (hh : hi < y) (hl : lo < 18446744073709551616) :
    (hi * 2 ^ s + lo / 2 ^ (64 - s)) * 18446744073709551616 + lo * 2 ^ s % 18446744073709551616 = (hi * 18446744073709551616 + lo) * 2 ^ s ∧ hi * 2 ^ s + lo / 2 ^ (64 - s) < y * 2 ^ s ∧ lo / 2 ^ (64 - s) < 2 ^ s := by
  have hp : 2 ^ s * 2 ^ (64 - s) = 18446744073709551616 := by
    rw [← Nat.pow_add]
    rw [show s + (64 - s) = 64 by omega]
  have h0 : 0 < 2 ^ s := Nat.pow_pos (by omega)
  have h0' : 0 < 2 ^ (64 - s) := Nat.pow_pos (by omega)
  have e : lo * 2 ^ s / 18446744073709551616 = lo / 2 ^ (64 - s) := by
    rw [← hp, Nat.mul_comm lo, Nat.mul_div_mul_left _ _ h0]
  have hlt : lo / 2 ^ (64 - s) < 2 ^ s := by
    rw [Nat.div_lt_iff_lt_mul h0', hp]
    exact hl
  have hd := Nat.div_add_mod (lo * 2 ^ s) 18446744073709551616
  rw [e] at hd
  refine ⟨?_, ?_, hlt⟩
  · rw [Nat.add_mul, Nat.add_mul, Nat.mul_right_comm hi]
    omega
  · have : (hi + 1) * 2 ^ s ≤ y * 2 ^ s := Nat.mul_le_mul_right _ hh
    rw [Nat.add_mul] at this
    omega
/-- The quotient of shifted numbers, and what is left. -/
theorem shift_div (U y s : Nat) : U * 2 ^ s / (y * 2 ^ s) = U / y ∧ U * 2 ^ s % (y * 2 ^ s) / 2 ^ s = U % y := by
  have h0 : 0 < 2 ^ s := Nat.pow_pos (by omega)
  refine ⟨Nat.mul_div_mul_right _ _ h0, ?_⟩
  rw [Nat.mul_mod_mul_right, Nat.mul_div_cancel _ h0]
end Go.Proofs.YtjpibgehhgaopaaGreat.Top
