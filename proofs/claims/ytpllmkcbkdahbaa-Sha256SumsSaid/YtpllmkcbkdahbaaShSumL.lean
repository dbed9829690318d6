/- Laws for the sums' walks: a state's row loaded and stored inside a region that draws its order; make with a capacity; what a sum is. -/
import Derived.Test.YtpllmkcbkdahbaaShPad
import Derived.Test.YtpllmkcbkdahbaaShBlkA
namespace Go.Proofs.Ytpllmkcbkdahbaa.Sha
open Go.RowKit Go.Proofs.YtpllmkcbkdahbaaW.PrintWords Go.Proofs.YtpllmkcbkdahbaaW.PrintLast Go.Proofs.YtpllmkcbkdahbaaW.PrintMore
set_option linter.unusedVariables false
set_option linter.unusedSimpArgs false

theorem load8_run {oi : Oper} {ev : Operand → Value} {x : Operand} {g : Nat} {s : St8} {W : World} (ho : oi.op = .load 28 x) (hx : ev x = .pointer (some ⟨g, 0, none⟩)) (hg : W.heap[g]? = some (s8O s)) :
    (execOp ev oi).run Try.prog W = .ok (.value (s8V s)) W := by
  unfold execOp
  simp only [ho, hx, Instr.loadAt, Instr.sureAddr, Sem.run_bind, Sem.run_pure, Result.andThen_ok, run_loadVar_row (P := Try.prog) W g 28 28 _ (0, 0) _ hg Try.underlying28 rfl size28]
theorem store8_ {ops : Array Oper} {o : Oper} {a : Act} {W : World} {K : Act → World → Prop} {Q : Exit → Act → World → Prop} (g : Nat) (r s : St8) (x y : Operand) (hw : Region.wanted o (yielded ops a.tmps) = true) (hN : o.dst = none)
    (ho : o.op = .store 28 x y) (hx : a.eval x = .pointer (some ⟨g, 0, none⟩)) (hy : a.eval y = s8V s)
    (hg : W.heap[g]? = some (s8O r)) (h : ∀ w1, Upd W w1 g (s8O s) → K a w1) : if Region.wanted o (yielded ops a.tmps) = true then Oper.wp Try.prog o a W K Q else K (a.put none undef) W := by
  rw [if_pos hw]
  refine wp_store_row 28 x y ho g _ hx hy 28 _ hg size28 rfl (nums_one .u32 s.list) ?_
  rw [hN]
  exact h _ (Upd.row hg _)
theorem blockA64 (s : St8) (A : Option Addr) (c : Nat) (b : List Int) (w : World) (hr : ReadsInt w .u8 A 64 b) (hc : 64 ≤ c) :
    Calls Try.prog 11 #[s8V s, .slice A 64 c] w fun e w' => e = .returned (.tuple #[s8V (blk s b), .bool true]) ∧ Below w.heap.size w w' := by
  have hb : b.length = 64 := hr.1
  have h := blockA s A c b w (by rw [hb]; exact Kd.C_of_reads (d := (0 : Int)) (h1 := fun _ => rfl) hr) (by omega) hb
  rw [hb] at h
  exact h
theorem own_keep {w w1 : World} {base n : Nat} {e : TypeId} {size : Nat} {v : Value} {xs : List Value} (h : w.ownsRow base e size v n xs) (hb : Below w.heap.size w w1) : w1.ownsRow base e size v n xs :=
  ⟨h.1, h.2.imp id fun ⟨g, cap, cur, he, hbb, hg, hr⟩ => ⟨g, cap, cur, he, hbb, (hb.block _ (blk_lt hg)).trans hg, hr⟩⟩
/-- make([]byte, 0, C). -/
theorem wpList_make_room {ops : Array Oper} {rest : List Oper} {o : Oper} {a : Act} {w : World} {Q : Exit → Act → World → Prop} (hgd : o.guard = none) (x y : Operand) (ho : o.op = .makeSlice 22 x y) (C : Int) (h0 : 0 ≤ C) (hC : C ≤ 281474976710656)
    (hx : a.eval x = .int .i64 0) (hy : a.eval y = .int .i64 C)
    (h : ∀ w1, w1.ownsRow w.heap.size 5 1 (.slice (some ⟨w.heap.size, 0, none⟩) 0 C.toNat) 0 (nums .u8 []) → Below w.heap.size w w1 → wpList Try.prog ops Q rest (a.put o.dst (.slice (some ⟨w.heap.size, 0, none⟩) 0 C.toNat)) w1) : wpList Try.prog ops Q (o :: rest) a w := by
  obtain ⟨i0, hi, hzz⟩ := Option.map_eq_some_iff.1 info5'
  simp only [Prod.mk.injEq] at hzz
  obtain ⟨hz0, hz1, hz2⟩ := hzz
  have hm := run_make (P := Try.prog) w 22 5 i0 (.int .u8 0) Try.underlying22 hi hz0 .i64 .i64 0 C (by omega) h0 (by rw [hz2]; omega) (by omega)
  have hN := New.alloc w (.cells (madeCells #[.int .u8 0] (C.toNat * i0.size)) 5)
  refine wpList_plain hgd fun K hK => ?_
  unfold Oper.wp execOp
  simp only [ho, hx, hy, Sem.run_bind, hm, Result.andThen_ok, Sem.run_pure]
  refine hK _ _ (h _ ⟨rfl, .inr ⟨w.heap.size, C.toNat, _, rfl, Nat.le_refl _, hN.at_, Nat.zero_le _, by simp [maxLen]; omega, ?_, by simp [nums]⟩⟩ hN.below)
  rw [hz1]
  simp [size_madeCells]

def sliceLen : Value → Nat
  | .slice _ n _ => n
  | _ => 0
/-! ### what a sum is -/
def sixtyfour (d : List Int) (k : Nat) : List Int := (d.drop (64 * k)).take 64
def absorb (s : St8) (d : List Int) : Nat → St8
  | 0 => s
  | k + 1 => blk (absorb s d k) (sixtyfour d k)
def b4 (x : Int) : List Int := [x / 16777216 % 256, x / 65536 % 256, x / 256 % 256, x % 256]
def outP (l : List Int) : Nat → List Int
  | 0 => []
  | j + 1 => outP l j ++ b4 (at0 l j)
theorem outP_length (l : List Int) : ∀ j, (outP l j).length = 4 * j
  | 0 => rfl
  | j + 1 => by simp [outP, outP_length l j, b4]; omega
def start8 : St8 := ⟨1779033703, 3144134277, 1013904242, 2773480762, 1359893119, 2600822924, 528734635, 1541459225⟩
def padded (b : List Int) : List Int := b ++ padL b.length
def sumL (b : List Int) : List Int := outP (absorb start8 (padded b) ((padded b).length / 64)).list 8
theorem padL_length (m : Nat) : (padL m).length = padN m + 9 := padMix_length _ m 8 (Nat.le_refl _)
theorem padded_length (b : List Int) : (padded b).length = 64 * ((padded b).length / 64) := by
  have : (padded b).length = b.length + (padN b.length + 9) := by unfold padded; rw [List.length_append, padL_length]
  unfold padN at this
  omega
theorem padded_bound (b : List Int) : (padded b).length ≤ b.length + 72 := by
  have : (padded b).length = b.length + (padN b.length + 9) := by unfold padded; rw [List.length_append, padL_length]
  unfold padN at this
  omega
theorem index8 (l : List Int) (hl : l.length = 8) (j : Nat) (hj : j < 8) (W : World) : (Instr.index 28 (aggU l) (.int .i64 (j : Int))).run Try.prog W = .ok (.int .u32 (at0 l j)) W :=
  run_index_words (P := Try.prog) Try.underlying28 Try.underlying27 size27 l hl j hj W
theorem four_reads (W : World) (a b c d : Int) : ReadsInt (W.alloc (.cells #[.int .u8 a, .int .u8 b, .int .u8 c, .int .u8 d] 5)) .u8 (some ⟨W.heap.size, 0, none⟩) 4 [a, b, c, d] :=
  reads_block (heap_alloc_new W _) rfl (by decide)
end Go.Proofs.Ytpllmkcbkdahbaa.Sha
