/- Pair with parameters that fail. -/
import Derived.Test.YtjpibgehhgaopaaGreatZ32
namespace Go.Proofs.YtjpibgehhgaopaaGreat.Top
open Go.RowKit Go.Proofs.YtjpibgehhgaopaaGreatW.PrintWords Go.Proofs.YtjpibgehhgaopaaGreatW.PrintLast Go.Proofs.YtjpibgehhgaopaaGreat.PTopGenerated
set_option linter.unusedVariables false
set_option linter.unusedSimpArgs false

set_option maxHeartbeats 1000000 in
set_option maxRecDepth 100000 in
/-- A number of bits that is no multiple of 128. -/
theorem pairBits (w : World) (sb : Nat) (b k : Int) (e : Nat) (hb : decide (b < 32) = true ∨ decide (b > 8192) = true) :
    Calls Tryz.prog 61 #[.pointer (some ⟨sb, 0, none⟩), .int .i64 b, .int .u64 (e : Int), .int .i64 k] w fun en w' => en = .returned (.tuple #[.slice none 0 0, .slice none 0 0, .int .i64 1]) ∧ Below w.heap.size w w' := by
  have hB : Below w.heap.size w ((((w.alloc (.cells #[.pointer (some ⟨sb, 0, none⟩)] 48)).alloc (.cells #[.int .i64 b] 3)).alloc (.cells #[.int .u64 (e : Int)] 23)).alloc (.cells #[.int .i64 k] 3)) := by
    repeat (first | exact Below.refl _ _ | apply below_alloc)
  have HB := Aside0.mk hB
  clear hB
  rcases h1 : decide (b < 32) with _ | _
  · have h2 : decide (b > 8192) = true := by rw [h1] at hb; simpa using hb
    clear hb
    go_enter Tryz.func61, Tryz.ntmps61
    go_wp2_with fail
    go_ret3
    exact ⟨rfl, HB.out⟩
  · clear hb
    go_enter Tryz.func61, Tryz.ntmps61
    go_wp2_with fail
    go_ret3
    exact ⟨rfl, HB.out⟩
end Go.Proofs.YtjpibgehhgaopaaGreat.Top
/- Pair with parameters that fail. -/
namespace Go.Proofs.YtjpibgehhgaopaaGreat.Top
open Go.RowKit Go.Proofs.YtjpibgehhgaopaaGreatW.PrintWords Go.Proofs.YtjpibgehhgaopaaGreatW.PrintLast Go.Proofs.YtjpibgehhgaopaaGreat.PTopGenerated
set_option linter.unusedVariables false
set_option linter.unusedSimpArgs false

set_option maxHeartbeats 2000000 in
set_option maxRecDepth 100000 in
theorem pairFail (w : World) (sb : Nat) (b k : Int) (e : Nat) (hf : decide (b < 32) = true ∨ decide (b > 8192) = true ∨ (b.tmod 128 != 0) = true ∨ decide ((e : Int) < 3) = true ∨ (Go.bits .and .u64 (e : Int) 1 == 0) = true ∨ decide ((e : Int) / 4294967296 > 0) = true ∨ decide (k < 1) = true ∨ decide (k > 100) = true) :
    Calls Tryz.prog 61 #[.pointer (some ⟨sb, 0, none⟩), .int .i64 b, .int .u64 (e : Int), .int .i64 k] w fun en w' => en = .returned (.tuple #[.slice none 0 0, .slice none 0 0, .int .i64 1]) ∧ Below w.heap.size w w' := by
  have hB : Below w.heap.size w ((((w.alloc (.cells #[.pointer (some ⟨sb, 0, none⟩)] 48)).alloc (.cells #[.int .i64 b] 3)).alloc (.cells #[.int .u64 (e : Int)] 23)).alloc (.cells #[.int .i64 k] 3)) := by
    repeat (first | exact Below.refl _ _ | apply below_alloc)
  have HB := Aside0.mk hB
  clear hB
  rcases h0 : decide (b < 32) with _ | _
  rotate_left
  · clear hf
    go_enter Tryz.func61, Tryz.ntmps61
    go_wp2_with fail
    go_ret3
    exact ⟨rfl, HB.out⟩
  rcases h1 : decide (b > 8192) with _ | _
  rotate_left
  · clear hf
    go_enter Tryz.func61, Tryz.ntmps61
    go_wp2_with fail
    go_ret3
    exact ⟨rfl, HB.out⟩
  rcases h2 : (b.tmod 128 != 0) with _ | _
  rotate_left
  · clear hf
    go_enter Tryz.func61, Tryz.ntmps61
    go_wp2_with fail
    go_ret3
    exact ⟨rfl, HB.out⟩
  rcases h3 : decide ((e : Int) < 3) with _ | _
  rotate_left
  · clear hf
    go_enter Tryz.func61, Tryz.ntmps61
    go_wp2_with fail
    go_ret3
    exact ⟨rfl, HB.out⟩
  rcases h4 : (Go.bits .and .u64 (e : Int) 1 == 0) with _ | _
  rotate_left
  · clear hf
    go_enter Tryz.func61, Tryz.ntmps61
    go_wp2_with fail
    go_ret3
    exact ⟨rfl, HB.out⟩
  rcases h5 : decide ((e : Int) / 4294967296 > 0) with _ | _
  rotate_left
  · clear hf
    go_enter Tryz.func61, Tryz.ntmps61
    go_wp2_with fail
    go_ret3
    exact ⟨rfl, HB.out⟩
  rcases h6 : decide (k < 1) with _ | _
  rotate_left
  · clear hf
    go_enter Tryz.func61, Tryz.ntmps61
    go_wp2_with fail
    go_ret3
    exact ⟨rfl, HB.out⟩
  rcases h7 : decide (k > 100) with _ | _
  rotate_left
  · clear hf
    go_enter Tryz.func61, Tryz.ntmps61
    go_wp2_with fail
    go_ret3
    exact ⟨rfl, HB.out⟩
  exfalso
  rw [h0, h1, h2, h3, h4, h5, h6, h7] at hf
  simp at hf
end Go.Proofs.YtjpibgehhgaopaaGreat.Top
/- Generate with parameters that fail. -/
namespace Go.Proofs.YtjpibgehhgaopaaGreat.Top
open Go.RowKit Go.Proofs.YtjpibgehhgaopaaGreatW.PrintWords Go.Proofs.YtjpibgehhgaopaaGreatW.PrintLast Go.Proofs.YtjpibgehhgaopaaGreat.PTopGenerated
set_option linter.unusedVariables false
set_option linter.unusedSimpArgs false

set_option maxHeartbeats 1000000 in
set_option maxRecDepth 100000 in
theorem genFail (w : World) (sb : Nat) (b k : Int) (e : Nat) (hf : decide (b < 32) = true ∨ decide (b > 8192) = true ∨ (b.tmod 128 != 0) = true ∨ decide ((e : Int) < 3) = true ∨ (Go.bits .and .u64 (e : Int) 1 == 0) = true ∨ decide ((e : Int) / 4294967296 > 0) = true ∨ decide (k < 1) = true ∨ decide (k > 100) = true) :
    Calls Tryz.prog 37 #[.pointer (some ⟨sb, 0, none⟩), .int .i64 b, .int .u64 (e : Int), .int .i64 k] w fun en w' => en = .returned (.tuple #[.agg zeroKey, .int .i64 1]) ∧ Below w.heap.size w w' := by
  have HF0 := Aside0.mk ((Fr.nil w).alloc (.cells zeroKey 28))
  simp only [List.nil_append] at HF0
  have HP := Aside0.mk (pairFail (w.alloc (.cells zeroKey 28)) sb b k e hf)
  clear hf
  go_enter Tryz.func37, Tryz.ntmps37
  go_wp2_with fail
  refine HP.out.mono ?_
  rintro en w1 ⟨rfl, hb⟩
  have HF1 := Aside0.mk (HF0.out.mv hb)
  have hold := HF1.out.at 0 rfl
  have HF3 := Aside0.mk (HF1.out.row 0 rfl zeroKey)
  clear hb HP
  go_wp2_with (refine wpList_store_row rfl 28 (.tmp 8) (.tmp 24) rfl w.heap.size zeroKey rfl rfl 28 _ hold size28 rfl zero_one ?_)
  refine bodyPost_ret (results_gen rfl rfl rfl (HF3.out.at 0 rfl)) rfl ?_
  exact ⟨rfl, HF3.out.bel⟩
end Go.Proofs.YtjpibgehhgaopaaGreat.Top
