/- What a block makes of a state, as plain Lean over whole numbers; the two spellings of the choices agree. -/
import Derived.Test.YtpllmkcbkdahbaaShB
namespace Go.Proofs.Ytpllmkcbkdahbaa.Sha
open Go.RowKit Go.Proofs.YtpllmkcbkdahbaaW.PrintWords Go.Proofs.YtpllmkcbkdahbaaW.PrintLast Go.Proofs.YtpllmkcbkdahbaaW.PrintMore
set_option linter.unusedVariables false
set_option linter.unusedSimpArgs false

def m32 (x : Int) : Int := x % 4294967296
/-- Words of a block: four bytes shifted in. -/
def shin (x c : Int) : Int := Go.bits .or .u32 (x * 256 % 4294967296) (c % 4294967296)
def part4 (b : List Int) (i : Nat) : Nat → Int
  | 0 => 0
  | k + 1 => shin (part4 b i k) (rd b (4 * (i : Int) + (k : Int)))
def be4 (b : List Int) (i : Nat) : Int := part4 b i 4
def at0 (l : List Int) (i : Nat) : Int := l.getD i 0
/-- The next word of the schedule, behind i of them. -/
def nextW (ws : List Int) (i : Nat) : Int := m32 (m32 (m32 (at0 ws (i - 16) + turned3 (at0 ws (i - 15)) 7 18 (-3)) + at0 ws (i - 7)) + turned3 (at0 ws (i - 2)) 17 19 (-10))
def sched (b : List Int) : Nat → List Int
  | 0 => []
  | i + 1 => sched b i ++ [if i < 16 then be4 b i else nextW (sched b i) i]
theorem sched_length (b : List Int) : ∀ i, (sched b i).length = i
  | 0 => rfl
  | i + 1 => by simp [sched, sched_length b i]
def chA (e f g : Int) : Int := Go.bits .xor .u32 g (Go.bits .and .u32 e (Go.bits .xor .u32 f g))
def majA (a b c : Int) : Int := Go.bits .or .u32 (Go.bits .and .u32 a b) (Go.bits .and .u32 c (Go.bits .or .u32 a b))
structure St8 where
  a : Int
  b : Int
  c : Int
  d : Int
  e : Int
  f : Int
  g : Int
  h : Int
def St8.list (r : St8) : List Int := [r.a, r.b, r.c, r.d, r.e, r.f, r.g, r.h]
def tmp1 (r : St8) (k w : Int) : Int := m32 (m32 (m32 (m32 (r.h + turned3 r.e 6 11 25) + chA r.e r.f r.g) + k) + w)
def tmp2 (r : St8) : Int := m32 (turned3 r.a 2 13 22 + majA r.a r.b r.c)
def rnd (r : St8) (k w : Int) : St8 := ⟨m32 (tmp1 r k w + tmp2 r), r.a, r.b, r.c, m32 (r.d + tmp1 r k w), r.e, r.f, r.g⟩
def rnds (s : St8) (ws : List Int) : Nat → St8
  | 0 => s
  | i + 1 => rnd (rnds s ws i) (at0 keysL i) (at0 ws i)
def blk (s : St8) (b : List Int) : St8 :=
  let r := rnds s (sched b 64) 64
  ⟨m32 (s.a + r.a), m32 (s.b + r.b), m32 (s.c + r.c), m32 (s.d + r.d), m32 (s.e + r.e), m32 (s.f + r.f), m32 (s.g + r.g), m32 (s.h + r.h)⟩
/-- Four bytes out of the block. -/
def four (b : List Int) (i : Nat) : List Int := (b.drop (4 * i)).take 4
theorem four_rd (b : List Int) (i k : Nat) (hk : k < 4) : rd (four b i) (k : Int) = rd b (4 * (i : Int) + (k : Int)) := by
  rw [show 4 * (i : Int) + (k : Int) = ((4 * i + k : Nat) : Int) by omega]
  unfold rd
  rw [Int.toNat_natCast, Int.toNat_natCast]
  simp [four, List.getD, List.getElem?_take, List.getElem?_drop, hk]
def U32 (x : Int) : Prop := 0 ≤ x ∧ x < 4294967296
theorem m32_u (x : Int) : U32 (m32 x) := by unfold U32 m32; omega

/-! ### bits on 32 -/
def bv (x : Int) : BitVec 32 := BitVec.ofInt 32 x
theorem wrap_bv (v : BitVec 32) : IntKind.u32.wrap (v.toNat : Int) = (v.toNat : Int) := by
  rw [IntKind.wrap_u32]
  have := v.isLt
  omega
theorem and32 (x y : Int) : Go.bits .and .u32 x y = ((bv x &&& bv y).toNat : Int) := wrap_bv _
theorem or32 (x y : Int) : Go.bits .or .u32 x y = ((bv x ||| bv y).toNat : Int) := wrap_bv _
theorem xor32 (x y : Int) : Go.bits .xor .u32 x y = ((bv x ^^^ bv y).toNat : Int) := wrap_bv _
theorem bv_nat (v : BitVec 32) : bv (v.toNat : Int) = v := by
  unfold bv
  apply BitVec.eq_of_toNat_eq
  rw [BitVec.toNat_ofInt]
  have := v.isLt
  show ((v.toNat : Int) % ((2 ^ 32 : Nat) : Int)).toNat = v.toNat
  omega
theorem bits_u (op : BinOp) (x y : Int) : U32 (Go.bits op .u32 x y) := by
  show U32 (IntKind.u32.wrap _)
  rw [IntKind.wrap_u32]
  exact m32_u _
end Go.Proofs.Ytpllmkcbkdahbaa.Sha
