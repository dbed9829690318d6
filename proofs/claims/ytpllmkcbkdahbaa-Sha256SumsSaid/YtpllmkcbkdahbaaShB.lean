/- sha256's tables: keys, start; the reference's k, Start. -/
import Derived.Test.YtpllmkcbkdahbaaShL
namespace Go.Proofs.Ytpllmkcbkdahbaa.Sha
open Go.RowKit Go.Proofs.YtpllmkcbkdahbaaW.PrintWords Go.Proofs.YtpllmkcbkdahbaaW.PrintLast Go.Proofs.YtpllmkcbkdahbaaW.PrintMore Go.Proofs.Ytpllmkcbkdahbaa.Pturn Go.Proofs.Ytpllmkcbkdahbaa.Pk Go.Proofs.Ytpllmkcbkdahbaa.PPad Go.Proofs.Ytpllmkcbkdahbaa.Psame
set_option linter.unusedVariables false
set_option linter.unusedSimpArgs false

def keysL : List Int := [1116352408, 1899447441, 3049323471, 3921009573, 961987163, 1508970993, 2453635748, 2870763221, 3624381080, 310598401, 607225278, 1426881987, 1925078388, 2162078206, 2614888103, 3248222580, 3835390401, 4022224774, 264347078, 604807628, 770255983, 1249150122, 1555081692, 1996064986, 2554220882, 2821834349, 2952996808, 3210313671, 3336571891, 3584528711, 113926993, 338241895, 666307205, 773529912, 1294757372, 1396182291, 1695183700, 1986661051, 2177026350, 2456956037, 2730485921, 2820302411, 3259730800, 3345764771, 3516065817, 3600352804, 4094571909, 275423344, 430227734, 506948616, 659060556, 883997877, 958139571, 1322822218, 1537002063, 1747873779, 1955562222, 2024104815, 2227730452, 2361852424, 2428436474, 2756734187, 3204031479, 3329325298]
def startL : List Int := [1779033703, 3144134277, 1013904242, 2773480762, 1359893119, 2600822924, 528734635, 1541459225]
/-- An array of words, as a value. -/
def aggU (l : List Int) : Value := .agg (nums .u32 l).toArray

set_option maxRecDepth 100000 in
theorem zero36 (w : World) : (zeroValue 36).run Try.prog w = .ok (aggU (List.replicate 64 0)) w := by kernel_rfl
theorem zero28 (w : World) : (zeroValue 28).run Try.prog w = .ok (aggU (List.replicate 8 0)) w := by kernel_rfl
theorem size36 : (Try.prog.info? 36).map (·.size) = some 64 := by kernel_rfl
theorem size28 : (Try.prog.info? 28).map (·.size) = some 8 := by kernel_rfl

theorem start_any (w : World) : Calls Try.prog 16 #[] w fun e w' => e = .returned (aggU startL) ∧ Below w.heap.size w w' := by
  go_enter Try.func16, Try.ntmps16
  go_wp2
  refine bodyPost_ret (results_cell_row rfl _ _ w.heap.size 28 (nums .u32 startL).toArray (0, 0) _ rfl (heap_alloc_new w _) Try.underlying28 rfl size28) rfl ?_
  exact ⟨rfl, below_alloc (Below.refl _ _) _⟩
theorem startRef_any (w : World) : Calls Try.prog 15 #[] w fun e w' => e = .returned (aggU startL) ∧ Below w.heap.size w w' := by
  go_enter Try.func15, Try.ntmps15
  go_wp2
  refine bodyPost_ret (results_cell_row rfl _ _ w.heap.size 28 (nums .u32 startL).toArray (0, 0) _ rfl (heap_alloc_new w _) Try.underlying28 rfl size28) rfl ?_
  exact ⟨rfl, below_alloc (Below.refl _ _) _⟩
set_option maxHeartbeats 1000000 in
set_option maxRecDepth 100000 in
theorem keys_any (w : World) : Calls Try.prog 18 #[] w fun e w' => e = .returned (aggU keysL) ∧ Below w.heap.size w w' := by
  go_enter Try.func18, Try.ntmps18
  go_wp2_with (first | (refine wpList_alloc_row rfl 36 rfl _ (zero36 _) ?_; intro w1 hN; have HN := Aside0.mk hN; clear hN) | (refine wpList_store_row' rfl 36 (.tmp 0) (.tmp 1) rfl w.heap.size (nums .u32 keysL).toArray rfl rfl 36 _ HN.out.at_ size36 rfl (nums_one _ _) ?_; intro w2 hU; have HU := Aside0.mk hU; clear hU))
  refine bodyPost_ret (results_cell_row rfl _ _ w.heap.size 36 (nums .u32 keysL).toArray (0, 0) _ rfl HU.out.at_ Try.underlying36 rfl size36) rfl ?_
  exact ⟨rfl, HU.out.below HN.out.below (Nat.le_refl _)⟩
end Go.Proofs.Ytpllmkcbkdahbaa.Sha
