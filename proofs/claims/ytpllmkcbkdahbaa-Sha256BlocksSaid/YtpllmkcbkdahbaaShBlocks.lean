/- The walk of the law Sha256Blocks. -/
import Derived.Test.YtpllmkcbkdahbaaShAwake
import Derived.Test.YtpllmkcbkdahbaaShBlkR
namespace Go.Proofs.Ytpllmkcbkdahbaa.Sha
open Go.RowKit Go.Proofs.YtpllmkcbkdahbaaW.PrintWords Go.Proofs.YtpllmkcbkdahbaaW.PrintLast Go.Proofs.YtpllmkcbkdahbaaW.PrintMore
set_option linter.unusedVariables false
set_option linter.unusedSimpArgs false

def zero8 : St8 := ⟨0, 0, 0, 0, 0, 0, 0, 0⟩
def resB (s : St8) (b : List Int) : St8 := if b.length = 64 then blk s b else zero8
def okB (b : List Int) : Bool := if b.length = 64 then true else false
theorem blockA_any (s : St8) (A : Option Addr) (c : Nat) (b : List Int) (w : World) (hr : ReadsInt w .u8 A b.length b) (hc : b.length ≤ c) :
    Calls Try.prog 11 #[s8V s, .slice A b.length c] w fun e w' => e = .returned (.tuple #[s8V (resB s b), .bool (okB b)]) ∧ Below w.heap.size w w' := by
  unfold resB okB
  by_cases h : b.length = 64
  · rw [if_pos h, if_pos h, h]
    rw [h] at hr hc
    exact blockA64 s A c b w hr hc
  · rw [if_neg h, if_neg h]
    exact blockA_no s A c b w h
theorem blockR_any (s : St8) (A : Option Addr) (c : Nat) (b : List Int) (w : World) (hr : ReadsInt w .u8 A b.length b) (hc : b.length ≤ c) (hs : s.U) :
    Calls Try.prog 12 #[s8V s, .slice A b.length c] w fun e w' => e = .returned (.tuple #[s8V (resB s b), .bool (okB b)]) ∧ Below w.heap.size w w' := by
  unfold resB okB
  by_cases h : b.length = 64
  · rw [if_pos h, if_pos h, h]
    rw [h] at hr hc
    exact blockR s A c b w hr hc hs
  · rw [if_neg h, if_neg h]
    exact blockR_no s A c b w h
theorem equal8 (l : List Int) (hl : l.length = 8) (w : World) : (Op.equalIn 10000 28 (.agg (nums .u32 l).toArray) (.agg (nums .u32 l).toArray)).run Try.prog w = .ok true w := by
  have hsz : ∀ w, (sizeOf 27).run Try.prog w = .ok 1 w := fun w => by
    obtain ⟨i0, hi0, hi1⟩ := Option.map_eq_some_iff.1 size27
    simp [sizeOf, typeInfo, hi0, hi1]
  show (Op.equalIn (9998 + 2) 28 _ _).run Try.prog w = _
  rw [Op.equalIn]
  simp only [Sem.run_bind, run_underlying Try.underlying28, Result.andThen_ok, hsz, Std.Legacy.Range.forIn_eq_forIn_range', Std.Legacy.Range.size, Nat.sub_zero, Nat.add_sub_cancel, Nat.div_one]
  have hL : ∀ i ∈ List.range' 0 8 1, i < 8 := fun i hi => by simpa using (List.mem_range'_1.1 hi).2
  generalize List.range' 0 8 1 = L at hL ⊢
  induction L with
  | nil => simp
  | cons i L ih =>
    have hi : i < 8 := hL i (by simp)
    have px : (part 27 (nums .u32 l).toArray (i * 1)).run Try.prog w = .ok (.int .u32 (l.getD i 0)) w := by
      simp [part, isAgg, run_underlying Try.underlying27, List.getD, nums, List.getElem?_eq_getElem (show i < l.length by omega)]
    have pe : (Op.equalIn (9998 + 1) 27 (.int .u32 (l.getD i 0)) (.int .u32 (l.getD i 0))).run Try.prog w = .ok true w := by
      rw [run_equalIn_int w 9998 27 .u32 .u32 _ _ Try.underlying27]
      simp
    simp only [List.forIn_cons, Sem.run_bind, px, pe, Result.andThen_ok]
    simp only [Bool.not_true, Bool.false_eq_true, if_false, Sem.run_pure, Result.andThen_ok]
    exact ih fun j hj => hL j (by simp [hj])
set_option maxHeartbeats 2000000 in
set_option maxRecDepth 100000 in
theorem blocksWalk (s : St8) (A : Option Addr) (c : Nat) (b : List Int) (w : World) (hs : s.U) (hr : ReadsInt w .u8 A b.length b) (hc : b.length ≤ c) :
    Calls Try.prog 4 #[s8V s, .slice A b.length c] w fun e w' => e = .returned (.bool true) ∧ Below w.heap.size w w' := by
  have HR := Aside0.mk hr
  have HC := Aside0.mk hc
  have HS := Aside0.mk hs
  have HB0 := Aside0.mk (below_alloc (Below.refl w.heap.size w) (s8O s))
  have HX0 := Aside0.mk (heap_alloc_new w (s8O s))
  clear hr hc hs
  go_enter Try.func4, Try.ntmps4
  go_wp2_with fail
  refine (awake_any _).mono ?_
  rintro e w1 ⟨rfl, hb1⟩
  have HB1 := Aside0.mk (HB0.out.trans (hb1.mono HB0.out.size))
  have HX1 := Aside0.mk (show w1.heap[w.heap.size]? = some (s8O s) from (hb1.block _ (blk_lt HX0.out)).trans HX0.out)
  clear hb1
  by_cases hlen : b.length > 200
  · have hlen' : decide ((b.length : Int) > 200) = true := by simp; omega
    go_wp2_with fail
    go_ret
    exact ⟨rfl, HB1.out⟩
  · have hlen' : decide ((b.length : Int) > 200) = false := by simp; omega
    go_wp2_with (refine wpList_load_row rfl 28 (.tmp 2) rfl w.heap.size rfl 28 _ (0, 0) _ HX1.out Try.underlying28 rfl size28 ?_; have tokL : True := trivial)
    refine (blockA_any s A c b _ (HR.out.below HB1.out) HC.out).mono ?_
    rintro e w2 ⟨rfl, hb2⟩
    have HB2 := Aside0.mk (HB1.out.trans (hb2.mono HB1.out.size))
    have HX2 := Aside0.mk ((hb2.block _ (blk_lt HX1.out)).trans HX1.out)
    clear hb2
    go_wp2_with (first | (refine wpList_alloc_row rfl 28 rfl _ (zero28 _) ?_; intro w3 hN3; have HN3 := Aside0.mk hN3; clear hN3) | (refine wpList_store_row' rfl 28 (.tmp 5) (.tmp 18) rfl w2.heap.size (nums .u32 (resB s b).list).toArray rfl rfl 28 _ HN3.out.at_ size28 rfl (nums_one _ _) ?_; intro w4 hU4; have HU4 := Aside0.mk hU4; clear hU4) | (refine wpList_load_row rfl 28 (.tmp 2) rfl w.heap.size rfl 28 _ (0, 0) _ (HU4.out.keep (HN3.out.keep HX2.out) (by have := blk_lt HX2.out; omega)) Try.underlying28 rfl size28 ?_; have tokL : True := trivial))
    have HB4 := Aside0.mk (HU4.out.below (HB2.out.trans (HN3.out.below.mono HB2.out.size)) HB2.out.size)
    have HX4 := Aside0.mk (show w4.heap[w2.heap.size]? = some (s8O (resB s b)) from HU4.out.at_)
    clear HU4 HN3
    refine (blockR_any s A c b _ (HR.out.below HB4.out) HC.out HS.out).mono ?_
    rintro e w5 ⟨rfl, hb5⟩
    have HB5 := Aside0.mk (HB4.out.trans (hb5.mono HB4.out.size))
    have heq : ∀ W : World, (Op.equalIn 10000 28 (.agg #[.int .u32 (resB s b).a, .int .u32 (resB s b).b, .int .u32 (resB s b).c, .int .u32 (resB s b).d, .int .u32 (resB s b).e, .int .u32 (resB s b).f, .int .u32 (resB s b).g, .int .u32 (resB s b).h]) (.agg (nums .u32 (resB s b).list).toArray)).run Try.prog W = .ok true W := fun W => equal8 (resB s b).list rfl W
    have HX5 := Aside0.mk ((hb5.block _ (blk_lt HX4.out)).trans HX4.out)
    clear hb5
    go_wp2_with (first | (refine wpList_alloc_row rfl 28 rfl _ (zero28 _) ?_; intro w6 hN6; have HN6 := Aside0.mk hN6; clear hN6) | (refine wpList_store_row' rfl 28 (.tmp 7) (.tmp 24) rfl w5.heap.size (nums .u32 (resB s b).list).toArray rfl rfl 28 _ HN6.out.at_ size28 rfl (nums_one _ _) ?_; intro w7 hU7; have HU7 := Aside0.mk hU7; clear hU7) | (refine wpList_load_row rfl 28 (.tmp 5) rfl w2.heap.size rfl 28 _ (0, 0) _ (HU7.out.keep (HN6.out.keep HX5.out) (by have := blk_lt HX5.out; omega)) Try.underlying28 rfl size28 ?_; have tokL : True := trivial) | (refine wpList_load_row rfl 28 (.tmp 7) rfl w5.heap.size rfl 28 _ (0, 0) _ HU7.out.at_ Try.underlying28 rfl size28 ?_; have tokL : True := trivial))
    go_ret
    exact ⟨rfl, HU7.out.below (HB5.out.trans (HN6.out.below.mono HB5.out.size)) HB5.out.size⟩
end Go.Proofs.Ytpllmkcbkdahbaa.Sha
