/- The reference's spellings come to the same. -/
import Derived.Test.YtpllmkcbkdahbaaShSpec
namespace Go.Proofs.Ytpllmkcbkdahbaa.Sha
open Go.RowKit Go.Proofs.YtpllmkcbkdahbaaW.PrintWords Go.Proofs.YtpllmkcbkdahbaaW.PrintLast Go.Proofs.YtpllmkcbkdahbaaW.PrintMore Go.Proofs.Ytpllmkcbkdahbaa.Pk
set_option linter.unusedVariables false
set_option linter.unusedSimpArgs false
/-- Eight words of 32 bits. -/
def St8.U (s : St8) : Prop := U32 s.a ∧ U32 s.b ∧ U32 s.c ∧ U32 s.d ∧ U32 s.e ∧ U32 s.f ∧ U32 s.g ∧ U32 s.h
theorem rnd_u {r : St8} (k w : Int) (h : r.U) : (rnd r k w).U := ⟨m32_u _, h.1, h.2.1, h.2.2.1, m32_u _, h.2.2.2.2.1, h.2.2.2.2.2.1, h.2.2.2.2.2.2.1⟩
theorem rnds_u {s : St8} (ws : List Int) (h : s.U) : ∀ i, (rnds s ws i).U
  | 0 => h
  | i + 1 => rnd_u _ _ (rnds_u ws h i)
theorem blk_u (s : St8) (b : List Int) : (blk s b).U := ⟨m32_u _, m32_u _, m32_u _, m32_u _, m32_u _, m32_u _, m32_u _, m32_u _⟩
theorem at0_append (l : List Int) (x : Int) (j : Nat) (P : Int → Prop) (hl : ∀ j, P (at0 l j)) (hx : P x) (h0 : P 0) : P (at0 (l ++ [x]) j) := by
  unfold at0 at *
  by_cases h : j < l.length
  · rw [List.getD_eq_getElem?_getD, List.getElem?_append_left h, ← List.getD_eq_getElem?_getD]
    exact hl j
  · by_cases h2 : j = l.length
    · subst h2
      simpa [List.getD_eq_getElem?_getD] using hx
    · rw [List.getD_eq_getElem?_getD, List.getElem?_eq_none (by simp; omega)]
      exact h0
theorem be4_u (b : List Int) (i : Nat) : U32 (be4 b i) := bits_u .or _ _
theorem sched_u (b : List Int) : ∀ i j, U32 (at0 (sched b i) j)
  | 0, j => by simp [sched, at0, U32]
  | i + 1, j => by
    refine at0_append _ _ j U32 (sched_u b i) ?_ (by simp [U32])
    split
    · exact be4_u b i
    · exact m32_u _
/-! ### bits -/
theorem bv_mod (x : Int) : bv (x % 4294967296) = bv x := by
  unfold bv
  apply BitVec.eq_of_toNat_eq
  rw [BitVec.toNat_ofInt, BitVec.toNat_ofInt]
  congr 1
  show x % 4294967296 % ((2 ^ 32 : Nat) : Int) = x % ((2 ^ 32 : Nat) : Int)
  omega
theorem bv_mul (x : Int) (n : Nat) (hn : n < 32) : bv (x * ((2 ^ n : Nat) : Int) % 4294967296) = bv x <<< n := by
  rw [bv_mod]
  apply BitVec.eq_of_toNat_eq
  rw [BitVec.toNat_shiftLeft, Nat.shiftLeft_eq]
  unfold bv
  rw [BitVec.toNat_ofInt, BitVec.toNat_ofInt]
  show (x * ((2 ^ n : Nat) : Int) % ((2 ^ 32 : Nat) : Int)).toNat = (x % ((2 ^ 32 : Nat) : Int)).toNat * 2 ^ n % 2 ^ 32
  rw [Int.mul_emod]
  have h1 : 0 ≤ x % ((2 ^ 32 : Nat) : Int) := Int.emod_nonneg _ (by decide)
  obtain ⟨y, hy⟩ := Int.eq_ofNat_of_zero_le h1
  rw [hy]
  have h2 : ((2 ^ n : Nat) : Int) % ((2 ^ 32 : Nat) : Int) = ((2 ^ n : Nat) : Int) := by
    apply Int.emod_eq_of_lt
    · exact Int.natCast_nonneg _
    · exact_mod_cast Nat.pow_lt_pow_right (by decide) hn
  rw [h2]
  norm_cast
theorem or_bv (x y : Int) : bv (Go.bits .or .u32 x y) = bv x ||| bv y := by rw [or32, bv_nat]
theorem and_bv (x y : Int) : bv (Go.bits .and .u32 x y) = bv x &&& bv y := by rw [and32, bv_nat]
theorem xor_bv (x y : Int) : bv (Go.bits .xor .u32 x y) = bv x ^^^ bv y := by rw [xor32, bv_nat]
/-- The reference's way to read four bytes. -/
def be4R (x0 x1 x2 x3 : Int) : Int := Go.bits .or .u32 (Go.bits .or .u32 (Go.bits .or .u32 (x0 % 4294967296 * 16777216 % 4294967296) (x1 % 4294967296 * 65536 % 4294967296)) (x2 % 4294967296 * 256 % 4294967296)) (x3 % 4294967296)
theorem shin_bv (x c : Int) : bv (shin x c) = bv x <<< 8 ||| bv c := by
  unfold shin
  rw [or_bv, bv_mod c, show (256 : Int) = ((2 ^ 8 : Nat) : Int) from rfl, bv_mul x 8 (by decide)]
theorem be4R_eq (b : List Int) (i : Nat) : be4R (b.getD (4 * i) 0) (b.getD (4 * i + 1) 0) (b.getD (4 * i + 2) 0) (b.getD (4 * i + 3) 0) = be4 b i := by
  have e : ∀ k : Nat, rd b (4 * (i : Int) + (k : Int)) = b.getD (4 * i + k) 0 := fun k => by
    unfold rd
    rw [show (4 * (i : Int) + (k : Int)).toNat = 4 * i + k by omega]
  have h1 : be4R (b.getD (4 * i) 0) (b.getD (4 * i + 1) 0) (b.getD (4 * i + 2) 0) (b.getD (4 * i + 3) 0) = (((bv (b.getD (4 * i) 0) <<< 24 ||| bv (b.getD (4 * i + 1) 0) <<< 16 ||| bv (b.getD (4 * i + 2) 0) <<< 8 ||| bv (b.getD (4 * i + 3) 0) : BitVec 32)).toNat : Int) := by
    unfold be4R
    rw [or32, or_bv, or_bv, show (16777216 : Int) = ((2 ^ 24 : Nat) : Int) from rfl, show (65536 : Int) = ((2 ^ 16 : Nat) : Int) from rfl, show (256 : Int) = ((2 ^ 8 : Nat) : Int) from rfl, bv_mul _ 24 (by decide), bv_mul _ 16 (by decide), bv_mul _ 8 (by decide), bv_mod, bv_mod, bv_mod, bv_mod]
  have h2 : be4 b i = (((((((0#32 <<< 8 ||| bv (b.getD (4 * i) 0)) <<< 8 ||| bv (b.getD (4 * i + 1) 0)) <<< 8 ||| bv (b.getD (4 * i + 2) 0)) <<< 8) ||| bv (b.getD (4 * i + 3) 0)) : BitVec 32).toNat : Int) := by
    show shin (shin (shin (shin 0 _) _) _) _ = _
    have ee := e 0
    rw [e 0, e 1, e 2, e 3]
    show Go.bits .or .u32 _ _ = _
    rw [or32, show (256 : Int) = ((2 ^ 8 : Nat) : Int) from rfl, bv_mul _ 8 (by decide), bv_mod, shin_bv, shin_bv, shin_bv]
    rfl
  rw [h1, h2]
  congr 2
  generalize bv (b.getD (4 * i) 0) = y0
  generalize bv (b.getD (4 * i + 1) 0) = y1
  generalize bv (b.getD (4 * i + 2) 0) = y2
  generalize bv (b.getD (4 * i + 3) 0) = y3
  simp only [BitVec.shiftLeft_or_distrib, ← BitVec.shiftLeft_add]
  simp
theorem turnRef' (x n : Int) (w : World) (h0 : 0 ≤ n) (h1 : n ≤ 31) (hx : 0 ≤ x) :
    Calls Try.prog 19 #[.int .u32 x, .int .i64 n] w fun e w' => e = .returned (.int .u32 (rot x n)) ∧ Below w.heap.size w w' :=
  (turnRef x n w h0 h1 hx).mono fun e w' h => ⟨h.1, h.2.below⟩
theorem kRef (i : Nat) (hi : i < 64) (w : World) : Calls Try.prog 20 #[.int .i64 (i : Int)] w fun e w' => e = .returned (.int .u32 (at0 keysL i)) ∧ Below w.heap.size w w' := by
  refine sconceref11_k.calls (i : Int) (at0 keysL i) w ?_
  unfold sconceref11_k.f
  show (some keysL).bind _ = _
  rw [Option.bind_some, if_pos (by omega), if_pos (by show (i : Int) < 64; omega)]
  rfl
theorem nextR (ws : List Int) (i : Nat) (x : Int)
    (h : x = (at0 ws (i - 16) + Go.bits .xor .u32 (Go.bits .xor .u32 (rot (at0 ws (i - 15)) 7) (rot (at0 ws (i - 15)) 18)) (at0 ws (i - 15) / 8) + at0 ws (i - 7) + Go.bits .xor .u32 (Go.bits .xor .u32 (rot (at0 ws (i - 2)) 17) (rot (at0 ws (i - 2)) 19)) (at0 ws (i - 2) / 1024)) % 4294967296) : x = nextW ws i := by
  have t1 : turned3 (at0 ws (i - 15)) 7 18 (-3) = Go.bits .xor .u32 (Go.bits .xor .u32 (rot (at0 ws (i - 15)) 7) (rot (at0 ws (i - 15)) 18)) (at0 ws (i - 15) / 8) := rfl
  have t2 : turned3 (at0 ws (i - 2)) 17 19 (-10) = Go.bits .xor .u32 (Go.bits .xor .u32 (rot (at0 ws (i - 2)) 17) (rot (at0 ws (i - 2)) 19)) (at0 ws (i - 2) / 1024) := rfl
  rw [h]
  unfold nextW m32
  rw [t1, t2]
  omega
theorem maj_eq (a b c : Int) : Go.bits .xor .u32 (Go.bits .xor .u32 (Go.bits .and .u32 a b) (Go.bits .and .u32 a c)) (Go.bits .and .u32 b c) = majA a b c := by
  unfold majA
  rw [xor32, xor_bv, and_bv, and_bv, and_bv, or32, and_bv, and_bv, or_bv]
  congr 2
  generalize bv a = x
  generalize bv b = y
  generalize bv c = z
  apply BitVec.eq_of_getLsbD_eq
  intro i hi
  simp only [BitVec.getLsbD_xor, BitVec.getLsbD_and, BitVec.getLsbD_or]
  cases x.getLsbD i <;> cases y.getLsbD i <;> cases z.getLsbD i <;> rfl
theorem ch_eq (e f g n : Int) (hn : bv n = ~~~ (bv e)) : Go.bits .xor .u32 (Go.bits .and .u32 e f) (Go.bits .and .u32 n g) = chA e f g := by
  unfold chA
  rw [xor32, and_bv, and_bv, hn, xor32, and_bv, xor_bv]
  congr 2
  generalize bv e = x
  generalize bv f = y
  generalize bv g = z
  apply BitVec.eq_of_getLsbD_eq
  intro i hi
  simp only [BitVec.getLsbD_xor, BitVec.getLsbD_and, BitVec.getLsbD_not]
  cases x.getLsbD i <;> cases y.getLsbD i <;> cases z.getLsbD i <;> simp [hi]
theorem ch_max (e f g : Int) : Go.bits .xor .u32 (Go.bits .and .u32 e f) (Go.bits .and .u32 (Go.bits .xor .u32 IntKind.u32.max e) g) = chA e f g :=
  ch_eq e f g _ (by
    rw [xor_bv, BitVec.not_def]
    rfl)
end Go.Proofs.Ytpllmkcbkdahbaa.Sha
