/- The walk of sha256.Pad, and the reference's Pad: both make 'padL'. -/
import Derived.Test.YtpllmkcbkdahbaaShSpec
namespace Go.Proofs.Ytpllmkcbkdahbaa.Sha
open Go.RowKit Go.Proofs.YtpllmkcbkdahbaaW.PrintWords Go.Proofs.YtpllmkcbkdahbaaW.PrintLast Go.Proofs.YtpllmkcbkdahbaaW.PrintMore Go.Proofs.Ytpllmkcbkdahbaa.PPad
set_option linter.unusedVariables false
set_option linter.unusedSimpArgs false

/-- The k low bytes of v, the highest first. -/
def tailB (v : Int) : Nat → List Int
  | 0 => []
  | k + 1 => (v / 256 ^ k) % 256 :: tailB v k
theorem tailB_length (v : Int) : ∀ k, (tailB v k).length = k
  | 0 => rfl
  | k + 1 => by simp [tailB, tailB_length v k]
def padN (m : Nat) : Nat := (119 - m % 64) % 64
def padMix (v : Int) (m k : Nat) : List Int := 128 :: (List.replicate (padN m + 8 - k) 0 ++ tailB v k)
/-- The padding behind m bytes. -/
def padL (m : Nat) : List Int := padMix ((m : Int) * 8 % 18446744073709551616) m 8
theorem padMix_length (v : Int) (m k : Nat) (hk : k ≤ 8) : (padMix v m k).length = padN m + 9 := by
  unfold padMix
  simp [tailB_length]
  omega
theorem padMix_set (v : Int) (m k : Nat) (hk : k < 8) : (padMix v m k).set (padN m + 9 - (k + 1)) ((v / 256 ^ k) % 256) = padMix v m (k + 1) := by
  unfold padMix
  rw [show padN m + 9 - (k + 1) = (padN m + 8 - (k + 1)) + 1 by omega, List.set_cons_succ, show padN m + 8 - k = (padN m + 8 - (k + 1)) + 1 by omega, List.replicate_succ', List.append_assoc]
  rw [List.set_append_right _ _ (by simp), List.length_replicate, Nat.sub_self]
  rfl
/-- A block of bytes is read. -/
theorem reads_block {w : World} {g n : Nat} {l : List Int} (h : w.heap[g]? = some (.cells (nums .u8 l).toArray 5)) (hl : l.length = n) (hn : n ≤ 9223372036854775807) : ReadsInt w .u8 (some ⟨g, 0, none⟩) n l := by
  refine ⟨hl, hn, fun _ => ⟨_, rfl, fun j hj => ?_⟩⟩
  have e : (⟨g, 0, none⟩ : Addr).add j = ⟨g, j, none⟩ := by
    unfold Addr.add
    by_cases h0 : j = 0
    · subst h0; rfl
    · rw [if_neg h0]; simp
  rw [e, blk_cell (t := 5) h j]
  simp [nums, List.getD, show j < l.length by omega]
theorem info5' : (Try.prog.info? 5).map (fun i => (i.zero, i.size, i.bytes)) = some (some (.int .u8 0), 1, 1) := by kernel_rfl

theorem made_nums (L : Nat) : madeCells #[.int .u8 0] L = (nums .u8 (List.replicate L 0)).toArray := by
  apply Array.toList_inj.1
  apply List.ext_getElem
  · simp [nums, madeCells]
  · intro i h1 h2
    simp [nums, madeCells, Nat.mod_one]
theorem wpList_make_bytes {ops : Array Oper} {rest : List Oper} {o : Oper} {a : Act} {w : World} {Q : Exit → Act → World → Prop} (hgd : o.guard = none) (x y : Operand) (ho : o.op = .makeSlice 22 x y) (L : Nat) (hL : L ≤ 281474976710656)
    (hx : a.eval x = .int .i64 (L : Int)) (hy : a.eval y = .int .i64 (L : Int))
    (h : ∀ w1, New w w1 (.cells (nums .u8 (List.replicate L 0)).toArray 5) → wpList Try.prog ops Q rest (a.put o.dst (.slice (some ⟨w.heap.size, 0, none⟩) L L)) w1) : wpList Try.prog ops Q (o :: rest) a w := by
  have hm := print_make (P := Try.prog) 22 5 .u8 1 Try.underlying22 info5' (by decide) L (by omega) w
  rw [made_nums] at hm
  refine wpList_plain hgd fun K hK => ?_
  unfold Oper.wp execOp
  simp only [ho, hx, hy, Sem.run_bind, hm, Result.andThen_ok, Sem.run_pure]
  exact hK _ _ (h _ (New.alloc w _))

set_option maxHeartbeats 1000000 in
set_option maxRecDepth 100000 in
theorem padA (n : Int) (m : Nat) (w : World) (hm : (if n < 0 then 0 else n) = (m : Int)) (h63 : m ≤ 9223372036854775807) :
    Calls Try.prog 13 #[.int .i64 n] w fun e w' => e = .returned (.slice (some ⟨w.heap.size, 0, none⟩) (padL m).length (padL m).length) ∧ w'.heap[w.heap.size]? = some (.cells (nums .u8 (padL m)).toArray 5) ∧ Below w.heap.size w w' := by
  have hz : 1 + (119 - (m : Int)) % 64 + 8 = ((padN m + 9 : Nat) : Int) := by unfold padN; omega
  obtain ⟨L, hL⟩ : ∃ L, L = padN m + 9 := ⟨_, rfl⟩
  have hL2 : L ≤ 100 := by unfold padN at hL; omega
  rw [← hL] at hz
  have h0L : (0 : Int) < (L : Int) := by omega
  have HL := Aside0.mk hL
  clear hL
  have hnth : (nums .u8 (List.replicate L 0)).toArray[0]? = some (.int .u8 0) := by
    obtain ⟨L', rfl⟩ : ∃ L', L = L' + 1 := ⟨L - 1, by omega⟩
    simp [nums, List.replicate_succ]
  go_enter Try.func13, Try.ntmps13
  go_wp2_with (at_make; go_loud (refine wpList_make_bytes rfl (.tmp 13) (.tmp 13) rfl L (by omega) rfl rfl ?_; intro w1 hN; have HN := Aside0.mk hN; have hc0 : w1.cell? ⟨w.heap.size, 0, none⟩ = some (.int .u8 0) := (by rw [blk_cell (t := 5) hN.at_ 0]; exact hnth); have hf0 : w1.frozen? ⟨w.heap.size, 0, none⟩ = false := blk_frozen (t := 5) hN.at_ 0; clear hN))
  obtain ⟨g, hg⟩ : ∃ g, g = w.heap.size := ⟨_, rfl⟩
  obtain ⟨V, hV⟩ : ∃ V : Int, V = (m : Int) * 8 % 18446744073709551616 := ⟨_, rfl⟩
  have HV := Aside0.mk hV
  clear hV
  have HM0 := Aside0.mk (show (w1.setCell ⟨g, 0, none⟩ (.int .u8 128)).heap[g]? = some (.cells (nums .u8 (padMix V m 0)).toArray 5) ∧ Below w.heap.size w (w1.setCell ⟨g, 0, none⟩ (.int .u8 128)) from by
    subst hg
    have hU := Upd.cell (t := 5) HN.out.at_ 0 (.int .u8 128)
    refine ⟨?_, hU.below HN.out.below (Nat.le_refl _)⟩
    rw [hU.at_, HL.out]
    simp [padMix, tailB, nums, List.replicate_succ])
  go_loopw [4, 5] (fun v4 v5 wr => ∃ k : Nat, v4 = .int .i64 ((k : Int) + 1) ∧ v5 = .int .u64 (V / 256 ^ k) ∧ Aside0 (k ≤ 8) ∧ Aside0 (wr.heap[w.heap.size]? = some (.cells (nums .u8 (padMix V m k)).toArray 5) ∧ Below w.heap.size w wr)) (fun v4 _ _ => 9 - (intOf v4).toNat)
  case atStart => exact ⟨0, rfl, by rw [HV.out, IntKind.wrap_u64]; simp, ⟨by omega⟩, by rw [hg] at HM0; exact HM0⟩
  case round =>
    obtain ⟨k, rfl, rfl, HK, HM⟩ := hrel
    have hk := HK.out
    by_cases hlt : k < 8
    · have hlt' : decide ((k : Int) + 1 ≤ 8) = true := by simp; omega
      have hlm := padMix_length V m k (by omega)
      have hc := blk_cell (t := 5) HM.out.1 (L - (k + 1))
      have hcs : wr.cell? ⟨w.heap.size, L - (k + 1), none⟩ = some (.int .u8 ((padMix V m k).getD (L - (k + 1)) 0)) := by
        have hlt2 : L - (k + 1) < (padMix V m k).length := by have := HL.out; omega
        rw [hc]
        simp [nums, hlt2, List.getD]
      have hfs : wr.frozen? ⟨w.heap.size, L - (k + 1), none⟩ = false := blk_frozen (t := 5) HM.out.1 _
      have hL9 : 9 ≤ L := by have := HL.out; omega
      have hle : (k : Int) + 1 ≤ (L : Int) := by omega
      clear hc hlm
      go_wp2_with fail
      go_roundw
      case rel =>
        have hU := Upd.cell (t := 5) HM.out.1 (L - (k + 1)) (.int .u8 (V / 256 ^ k % 256))
        refine ⟨k + 1, by go_num, ?_, ⟨by omega⟩, ⟨?_, hU.below HM.out.2 (Nat.le_refl _)⟩⟩
        · rw [Int.pow_succ, Int.ediv_ediv_of_nonneg (Int.pow_nonneg (by decide))]
        · rw [hU.at_, ← padMix_set V m k hlt, HL.out]
          simp [nums, List.map_set]
      case measure => simp [intOf]; omega
    · obtain rfl : k = 8 := by omega
      have hlt' : decide (((8 : Nat) : Int) + 1 ≤ 8) = false := by simp
      have hlen := padMix_length V m 8 (Nat.le_refl _)
      go_wp2_with fail
      go_ret
      rw [HV.out] at hlen HM
      refine ⟨?_, HM.out.1, HM.out.2⟩
      rw [show (padL m).length = L from by rw [HL.out]; exact hlen]
      rfl

/-! ### the reference's Pad -/
theorem pad_l1 (m : Nat) (hm : m ≤ 9223372036854775807) : ∀ (j k : Nat) (x3 : List Int), j ≤ 8 → x3.length ≤ 1000 - j → sconceref11_Pad.l1 (k + j + 1) (m : Int) x3 (8 * (j : Int) - 8) = some (x3 ++ tailB ((m : Int) * 8 % 18446744073709551616) j)
  | 0, k, x3, _, _ => by
    rw [sconceref11_Pad.l1, if_neg (by omega)]
    simp [tailB]
  | j + 1, k, x3, hj, hl => by
    have ih := pad_l1 m hm j k (x3 ++ [((m : Int) * 8 % 18446744073709551616) / 256 ^ j % 256]) (by omega) (by simp; omega)
    have e1 : 8 * ((j + 1 : Nat) : Int) - 8 = 8 * (j : Int) := by omega
    have e2 : IntKind.u64.wrap (8 * (j : Int)) = 8 * (j : Int) := by rw [IntKind.wrap_u64]; omega
    have e3 : wrap64 (8 * (j : Int) - 8) = 8 * (j : Int) - 8 := by unfold wrap64; omega
    have e4 : shr .u64 (IntKind.u64.wrap (8 * (IntKind.u64.wrap (m : Int)))) (8 * (j : Int)) = ((m : Int) * 8 % 18446744073709551616) / 256 ^ j := by
      unfold shr
      rw [Nat.min_eq_left (by show (8 * (j : Int)).toNat ≤ 64; omega), IntKind.wrap_u64, IntKind.wrap_u64, show (8 * (j : Int)).toNat = 8 * j by omega, Int.pow_mul]
      rw [show 8 * ((m : Int) % 18446744073709551616) % 18446744073709551616 = (m : Int) * 8 % 18446744073709551616 by omega]
      rfl
    rw [e1, show k + (j + 1) + 1 = (k + j + 1) + 1 by omega, sconceref11_Pad.l1, if_pos (by omega), e2, if_pos (by omega), if_pos (by omega), e4, e3, ih]
    simp [tailB]
theorem pad_l0 (m : Nat) (hm : m ≤ 9223372036854775807) (k : Nat) : ∀ r : Nat, r ≤ padN m → sconceref11_Pad.l0 (k + r + 1) (m : Int) (128 :: List.replicate (padN m - r) 0) = sconceref11_Pad.l1 k (m : Int) (128 :: List.replicate (padN m) 0) 56
  | 0, _ => by
    rw [sconceref11_Pad.l0, if_pos]
    · rfl
    · rw [IntKind.wrap_u64, IntKind.wrap_u64, IntKind.wrap_u64, Int.tmod_eq_emod_of_nonneg (by omega)]
      simp
      unfold padN
      omega
  | r + 1, hr => by
    have hp : padN m < 64 := by unfold padN; omega
    rw [show k + (r + 1) + 1 = (k + r + 1) + 1 by omega, sconceref11_Pad.l0, if_neg, if_pos (by simp; omega)]
    · rw [← pad_l0 m hm k r (by omega)]
      congr 1
      rw [List.cons_append, show padN m - r = (padN m - (r + 1)) + 1 by omega, List.replicate_succ']
    · rw [IntKind.wrap_u64, IntKind.wrap_u64, IntKind.wrap_u64, Int.tmod_eq_emod_of_nonneg (by omega)]
      have hq : padN m = (119 - m % 64) % 64 := rfl
      simp
      omega
theorem padRef_f (n : Int) (m : Nat) (hm : (if n < 0 then 0 else n) = (m : Int)) (h63 : m ≤ 9223372036854775807) : sconceref11_Pad.f (9 + padN m + 1) n = some (padL m) := by
  unfold sconceref11_Pad.f
  have e : mx n 0 = (m : Int) := hm
  have h0 := pad_l0 m h63 9 (padN m) (Nat.le_refl _)
  rw [Nat.sub_self] at h0
  have hp : padN m < 64 := by unfold padN; omega
  have h1 := pad_l1 m h63 8 0 (128 :: List.replicate (padN m) 0) (by omega) (by simp; omega)
  rw [e]
  refine h0.trans (Eq.trans ?_ (h1.trans ?_))
  · rfl
  · simp [padL, padMix]
end Go.Proofs.Ytpllmkcbkdahbaa.Sha
