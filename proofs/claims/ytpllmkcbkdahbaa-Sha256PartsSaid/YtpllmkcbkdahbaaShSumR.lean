/- The walk of the reference's Sum. -/
import Derived.Test.YtpllmkcbkdahbaaShSumL
import Derived.Test.YtpllmkcbkdahbaaShPads
import Derived.Test.YtpllmkcbkdahbaaShBlkR
namespace Go.Proofs.Ytpllmkcbkdahbaa.Sha
open Go.RowKit Go.Proofs.YtpllmkcbkdahbaaW.PrintWords Go.Proofs.YtpllmkcbkdahbaaW.PrintLast Go.Proofs.YtpllmkcbkdahbaaW.PrintMore
set_option linter.unusedVariables false
set_option linter.unusedSimpArgs false

theorem absorb_u (d : List Int) : ∀ k, (absorb start8 d k).U
  | 0 => by
    show U32 _ ∧ U32 _ ∧ U32 _ ∧ U32 _ ∧ U32 _ ∧ U32 _ ∧ U32 _ ∧ U32 _
    simp [absorb, start8, U32]
  | k + 1 => blk_u _ _
theorem mid64 (A : Option Addr) (c : Nat) (d : List Int) (j : Nat) (hj : j + 64 ≤ d.length) (hc : d.length ≤ c) :
    ∃ A' : Option Addr, (∀ W : World, (Instr.slice 22 (.slice A d.length c) (some (.int .i64 (j : Int))) (some (.int .i64 ((j : Int) + 64))) none).run Try.prog W = .ok (.slice A' 64 (c - j)) W) ∧
      (∀ w : World, ReadsInt w .u8 A d.length d → ReadsInt w .u8 A' 64 ((d.drop j).take 64)) := by
  obtain ⟨i0, hi0, hz⟩ := Option.map_eq_some_iff.1 (show (Try.prog.info? 5).map (·.size) = some 1 by kernel_rfl)
  obtain ⟨A', h1, h2, h3⟩ := print_mid_int (P := Try.prog) (k := .u8) 22 5 Try.underlying22 hi0 hz A c d (j : Int) ((j : Int) + 64) (by omega) (by omega) (by omega) hc
  have e1 : (j : Int).toNat = j := by omega
  have e2 : ((j : Int) + 64).toNat = j + 64 := by omega
  have hf : ((d.take (j + 64)).drop j) = (d.drop j).take 64 := by
    rw [List.drop_take]
    congr 1
    omega
  have hl : ((d.drop j).take 64).length = 64 := by rw [List.length_take, List.length_drop]; omega
  rw [e1, e2, hf, hl] at h1 h2
  exact ⟨A', h1, h2⟩
theorem msr (j n : Nat) (h : j + 64 ≤ n) : n - (intOf (.int .i64 ((j : Int) + 64))).toNat < n - (intOf (.int .i64 (j : Int))).toNat := by
  show n - ((j : Int) + 64).toNat < n - (j : Int).toNat
  have e1 : ((j : Int) + 64).toNat = j + 64 := by omega
  have e2 : (j : Int).toNat = j := by omega
  rw [e1, e2]
  omega
set_option maxHeartbeats 2000000 in
set_option maxRecDepth 100000 in
theorem sumR (A : Option Addr) (c : Nat) (b : List Int) (w : World) (hr : ReadsInt w .u8 A b.length b) (hc : b.length ≤ c) (hb : b.length ≤ 3000) :
    Calls Try.prog 10 #[.slice A b.length c] w fun e w' => ∃ v, e = .returned v ∧ w'.ownsRow w.heap.size 5 1 v (sumL b).length (nums .u8 (sumL b)) ∧ Below w.heap.size w w' := by
  have HR := Aside0.mk hr
  have HC := Aside0.mk hc
  have HL := Aside0.mk hb
  clear hr hc hb
  have hmx : (if (b.length : Int) < 0 then 0 else (b.length : Int)) = (b.length : Int) := by rw [if_neg (by omega)]
  go_enter Try.func10, Try.ntmps10
  go_wp2_with (at_builtin; refine print_append_row (w0 := w) w.heap.size rfl (.const (.slice none 0 0)) (.tmp 9) 22 5 .u8 1 rfl Try.underlying22 info5' (by decide) _ [] b A b.length c rfl rfl (own_nil _ _ _ _) HR.out (Below.refl _ _) (Nat.le_refl _) (by have := HL.out; simp; omega) ?_; intro v2 w2 hO2 hB2 hg_ hat_; clear hg_ hat_; have HO2 := Aside0.mk hO2; have HB2 := Aside0.mk hB2; clear hO2 hB2)
  refine (padRef_own (b.length : Int) b.length _ hmx (by have := HL.out; omega)).mono ?_
  rintro e w3 ⟨v3, rfl, hO3, hb3⟩
  obtain ⟨A3, c3, rfl, hR3⟩ := own_reads hO3
  have HG3 := Aside0.mk hR3
  have HB3 := Aside0.mk (HB2.out.trans (hb3.mono HB2.out.size))
  have HO3 := Aside0.mk (own_keep HO2.out hb3)
  clear hO3 hR3 hb3
  go_wp2_with (at_builtin; refine print_append_row (w0 := w) w.heap.size rfl (.tmp 10) (.tmp 13) 22 5 .u8 1 rfl Try.underlying22 info5' (by decide) _ ([] ++ b) (padL b.length) _ _ _ rfl rfl HO3.out HG3.out HB3.out HB3.out.size (by have := HL.out; rw [padL_length]; unfold padN; simp; omega) ?_; intro v4 w4 hO4 hB4 hg_ hat_; clear hg_ hat_; have HO4 := Aside0.mk (show w4.ownsRow w.heap.size 5 1 v4 (padded b).length (nums .u8 (padded b)) from hO4); have HB4 := Aside0.mk hB4; clear hO4 hB4)
  obtain ⟨A4, c4, rfl, hR4⟩ := own_reads HO4.out
  have HR4 := Aside0.mk hR4
  have HC4 := Aside0.mk (show (padded b).length ≤ c4 from by
    rcases HO4.out.2 with ⟨h1, h2⟩ | ⟨g, cap, cur, h1, _, _, h2, _⟩
    · omega
    · injection h1 with _ _ h3; omega)
  clear hR4 HO3 HO2 HG3
  refine (startRef_any _).mono ?_
  rintro e w5 ⟨rfl, hb5⟩
  have HB5 := Aside0.mk hb5
  clear hb5
  go_wp2_with (first | (refine wpList_alloc_row rfl 28 rfl _ (zero28 _) ?_; intro w6 hN6; have HN6 := Aside0.mk hN6; clear hN6) | (refine wpList_store_row' rfl 28 (.tmp 4) (.tmp 15) rfl w5.heap.size (nums .u32 startL).toArray rfl rfl 28 _ HN6.out.at_ size28 rfl (nums_one _ _) ?_; intro w7 hU7; have HU7 := Aside0.mk hU7; clear hU7))
  obtain ⟨gs, hgs⟩ : ∃ gs, gs = w5.heap.size := ⟨_, rfl⟩
  have HS := Aside0.mk (show Below w4.heap.size w4 w7 ∧ w7.heap[gs]? = some (s8O (absorb start8 (padded b) 0)) ∧ w4.heap.size ≤ gs from by
    subst hgs
    exact ⟨HU7.out.below (HB5.out.trans (HN6.out.below.mono HB5.out.size)) HB5.out.size, HU7.out.at_, HB5.out.size⟩)
  rw [← hgs]
  obtain ⟨N, hN⟩ : ∃ N, N = (padded b).length / 64 := ⟨_, rfl⟩
  have HN := Aside0.mk (show (padded b).length = 64 * N ∧ (padded b).length ≤ 4000 from by have h1 := padded_length b; have h2 := padded_bound b; have h3 := HL.out; rw [hN]; omega)
  have HNN := Aside0.mk hN
  clear hgs hN HU7 HN6 HB5
  obtain ⟨d, hd⟩ : ∃ d, d = padded b := ⟨_, rfl⟩
  have HDB := Aside0.mk hd
  rw [← hd] at HS HN HNN HR4 HC4 ⊢
  clear hd HO4
  go_loopw [5] (fun v5 wr => ∃ (k j : Nat), v5 = .int .i64 (j : Int) ∧ Aside0 (j = 64 * k ∧ k ≤ N) ∧ Aside0 (Below w4.heap.size w4 wr ∧ wr.heap[gs]? = some (s8O (absorb start8 d k)) ∧ w4.heap.size ≤ gs)) (fun v5 _ => d.length - (intOf v5).toNat)
  case atStart => exact ⟨0, 0, rfl, ⟨by omega⟩, HS⟩
  case round =>
    clear HS
    obtain ⟨k, j, rfl, HK, HS⟩ := hrel
    by_cases hlt : k < N
    · have hgt' : decide ((j : Int) < (d.length : Int)) = true := by have := HK.out; have := HN.out; simp; omega
      have hj64 : j + 64 ≤ d.length := by have := HK.out; have := HN.out; omega
      have hw : wrap64 ((j : Int) + 64) = (j : Int) + 64 := by have := HK.out; have := HN.out; unfold wrap64; omega
      obtain ⟨A', hmid, hread⟩ := mid64 A4 c4 d j hj64 HC4.out
      have hc64 : 64 ≤ c4 - j := by have := HC4.out; omega
      obtain ⟨s, hs⟩ : ∃ s, s = absorb start8 d k := ⟨_, rfl⟩
      rw [← hs] at HS
      have HSS := Aside0.mk hs
      have HSU := Aside0.mk (show s.U from by rw [hs]; exact absorb_u d k)
      obtain ⟨x, hx⟩ : ∃ x, x = (d.drop j).take 64 := ⟨_, rfl⟩
      have HF2 := Aside0.mk (show ReadsInt w4 .u8 A' 64 x from by rw [hx]; exact hread w4 HR4.out)
      have HDD := Aside0.mk (show x = sixtyfour d k from by rw [hx, HK.out.1]; rfl)
      clear hs hx hread hlt
      go_wp2_with fail
      have HS8 := Aside0.mk (show Below w4.heap.size w4 wr.drew from below_drew HS.out.1)
      -- BEGIN S6
      refine start_ (n := 11) (S := fun w' => w'.heap[gs]? = some (s8O s)) (ds := [10]) #[false, false, false, false, false, false, false, false, false, false, false] (by kernel_rfl) rfl rfl (HS.out.2.1) (fun hHeld => ?_)
      refine pure_ (i := 1) (N := some 24) (v := ?_) (a' := ?_) #[false, true, false, false, false, false, false, false, false, false, false] rfl rfl (by kernel_rfl) (fun _ _ _ h => h) (Or.inl ⟨by rfl, ?_⟩) ?_ ?_
      rotate_left
      · intro w'
        go_simp
        with_reducible rfl
      rotate_left
      · simp only [Act.put, List.setIfInBounds_toArray, List.set_cons_zero, List.set_cons_succ, i64_w, i32_w]
        rfl
      refine pure_ (i := 2) (N := some 25) (v := ?_) (a' := ?_) #[false, true, true, false, false, false, false, false, false, false, false] rfl rfl (by kernel_rfl) (fun _ _ _ h => h) (Or.inl ⟨by rfl, ?_⟩) ?_ ?_
      rotate_left
      · intro w'
        go_simp
        with_reducible rfl
      rotate_left
      · simp only [Act.put, List.setIfInBounds_toArray, List.set_cons_zero, List.set_cons_succ, i64_w, i32_w]
        rfl
      refine pure_ (i := 3) (N := some 26) (v := ?_) (a' := ?_) #[false, true, true, true, false, false, false, false, false, false, false] rfl rfl (by kernel_rfl) (fun _ _ _ h => h) (Or.inl ⟨by rfl, ?_⟩) ?_ ?_
      rotate_left
      · intro w'
        go_simp
        with_reducible rfl
      rotate_left
      · simp only [Act.put, List.setIfInBounds_toArray, List.set_cons_zero, List.set_cons_succ, i64_w, i32_w]
        rfl
      refine pure_ (i := 4) (N := some 27) (v := ?_) (a' := ?_) #[false, true, true, true, true, false, false, false, false, false, false] rfl rfl (by kernel_rfl) (fun _ _ _ h => h) (Or.inl ⟨by rfl, ?_⟩) ?_ ?_
      rotate_left
      · intro w'
        go_simp
        with_reducible rfl
      rotate_left
      · simp only [Act.put, List.setIfInBounds_toArray, List.set_cons_zero, List.set_cons_succ, i64_w, i32_w]
        rfl
      refine pure_ (i := 5) (N := some 28) (v := ?_) (a' := ?_) #[false, true, true, true, true, true, false, false, false, false, false] rfl rfl (by kernel_rfl) (fun _ _ _ h => h) (Or.inl ⟨by rfl, ?_⟩) ?_ ?_
      rotate_left
      · intro w'
        go_simp
        with_reducible rfl
      rotate_left
      · simp only [Act.put, List.setIfInBounds_toArray, List.set_cons_zero, List.set_cons_succ, i64_w, i32_w]
        rfl
      refine take_ (i := 0) (N := some 23) (v := ?_) (a' := ?_) #[true, true, true, true, true, true, false, false, false, false, false] rfl rfl (by kernel_rfl) (fun _ _ _ h => h) (Or.inl ⟨by rfl, ?_⟩) hHeld ?_ ?_
      rotate_left
      · intro w' s0
        refine load8_run (x := .tmp 4) ?_ ?_ s0 <;> rfl
      rotate_left
      · simp only [Act.put, List.setIfInBounds_toArray, List.set_cons_zero, List.set_cons_succ, i64_w, i32_w]
        rfl
      refine one_ (i := 6) (N := some 29) #[true, true, true, true, true, true, true, false, false, false, false] rfl rfl (by kernel_rfl) (by decide) (fun K hK => ?_)
      refine goes_ Try.func12 (by kernel_rfl) rfl #[s8V s, .slice A' 64 (c4 - j)] (by rfl) rfl rfl (by simp only [List.map_toArray, List.map_cons, List.map_nil]; rfl) ?_
      with_reducible refine (blockR s A' (c4 - j) x _ (HF2.out.below HS8.out) hc64 HSU.out).mono ?_
      rintro x_ w9 ⟨rfl, hb9⟩
      have HS9 := Aside0.mk (And.intro (HS8.out.trans (hb9.mono HS8.out.size)) ((hb9.block gs (blk_lt HS.out.2.1)).trans HS.out.2.1))
      clear hb9
      refine ⟨_, rfl, ?_⟩
      refine hK.out _ _ (HS9.out.2) (fun hHeld => ?_)
      clear hK K
      refine norm_ (a' := ?_) ?_ ?_
      rotate_left
      · show Act.put _ (some 29) _ = _
        simp only [Act.put, List.setIfInBounds_toArray, List.set_cons_zero, List.set_cons_succ, i64_w, i32_w]
        rfl
      refine pure_ (i := 7) (N := some 22) (v := ?_) (a' := ?_) #[true, true, true, true, true, true, true, true, false, false, false] rfl rfl (by kernel_rfl) (fun _ _ _ h => h) (Or.inl ⟨by rfl, ?_⟩) ?_ ?_
      rotate_left
      · intro w'
        go_simp
        with_reducible rfl
      rotate_left
      · simp only [Act.put, List.setIfInBounds_toArray, List.set_cons_zero, List.set_cons_succ, i64_w, i32_w]
        rfl
      refine pure_ (i := 8) (N := some 30) (v := ?_) (a' := ?_) #[true, true, true, true, true, true, true, true, true, false, false] rfl rfl (by kernel_rfl) (fun _ _ _ h => h) (Or.inl ⟨by rfl, ?_⟩) ?_ ?_
      rotate_left
      · intro w'
        go_simp
        with_reducible rfl
      rotate_left
      · simp only [Act.put, List.setIfInBounds_toArray, List.set_cons_zero, List.set_cons_succ, i64_w, i32_w]
        rfl
      refine pure_ (i := 9) (N := some 31) (v := ?_) (a' := ?_) #[true, true, true, true, true, true, true, true, true, true, false] rfl rfl (by kernel_rfl) (fun _ _ _ h => h) (Or.inl ⟨by rfl, ?_⟩) ?_ ?_
      rotate_left
      · intro w'
        go_simp
        with_reducible rfl
      rotate_left
      · simp only [Act.put, List.setIfInBounds_toArray, List.set_cons_zero, List.set_cons_succ, i64_w, i32_w]
        rfl
      refine last_ (i := 10) (N := none) #[true, true, true, true, true, true, true, true, true, true, true] rfl rfl (by kernel_rfl) (by decide) (fun K hK => ?_)
      refine store8_ gs s (blk s x) (.tmp 4) (.tmp 30) (by rfl) rfl rfl rfl rfl HS9.out.2 ?_
      intro w10 hU10
      have HS10 := Aside0.mk (And.intro (hU10.below HS9.out.1 HS.out.2.2) hU10.at_)
      clear hU10
      refine hK.out _ _ ?_
      clear hK K
      refine done_ (by kernel_rfl) ?_
      -- END S6
      go_wp2_with fail
      go_roundw
      case rel =>
        have hk := HK.out
        have hn := HN.out
        refine ⟨k + 1, j + 64, by go_num, ⟨by omega⟩, ⟨HS10.out.1, ?_, HS.out.2.2⟩⟩
        have h := HS10.out.2
        rw [HSS.out, HDD.out] at h
        exact h
      case measure => rw [hw]; exact msr j d.length hj64
    · have hkN : k = N := by have := HK.out; omega
      have hgt' : decide ((j : Int) < (d.length : Int)) = false := by have := HK.out; have := HN.out; simp; omega
      have hgn : decide (j < d.length) = false := by have := HK.out; have := HN.out; simp; omega
      have hnn : d.length ≤ j := by have := HK.out; have := HN.out; omega
      obtain ⟨s, hs⟩ : ∃ s, s = absorb start8 d k := ⟨_, rfl⟩
      rw [← hs] at HS
      have HSS := Aside0.mk hs
      have HKN := Aside0.mk hkN
      clear hs hkN hlt
      obtain ⟨wo, rfl⟩ : ∃ wo : World, wo = wr := ⟨_, rfl⟩
      have HB0 := Aside0.mk (HB4.out.trans (HS.out.1.mono HB4.out.size))
      obtain ⟨l, hl⟩ : ∃ l, l = s.list := ⟨_, rfl⟩
      have hl8 : l.length = 8 := by rw [hl]; rfl
      have HL8 := Aside0.mk (show wo.heap[gs]? = some (.cells (nums .u32 l).toArray 28) from by rw [hl]; exact HS.out.2.1)
      have hsz : (Try.prog.info? 28).map (·.size) = some (nums .u32 l).toArray.size := by rw [size28]; simp [nums, hl8]
      have HLL := Aside0.mk hl
      clear hl
      go_wp2_with (refine wpList_load_row rfl 28 (.tmp 4) rfl gs rfl 28 (nums .u32 l).toArray (0, 0) _ HL8.out Try.underlying28 rfl hsz ?_; have tokM : True := trivial)
      go_loopw [6, 33] (fun v6 v33 wr => ∃ j : Nat, v33 = .int .i64 j ∧ Aside0 (j ≤ 8) ∧ Aside0 (wr.ownsRow w.heap.size 5 1 v6 (outP l j).length (nums .u8 (outP l j)) ∧ Below w.heap.size w wr)) (fun _ v33 _ => 8 - (intOf v33).toNat)
      case atStart => exact ⟨0, rfl, ⟨by omega⟩, ⟨own_nil _ _ _ _, HB0.out⟩⟩
      case round =>
        obtain ⟨j, rfl, HJ, HO⟩ := hrel
        have hj := HJ.out
        by_cases hlt : j < 8
        · have hlt2 : decide ((j : Int) < 8) = true := by simp; omega
          have hidx : ∀ W : World, (Instr.index 28 (.agg (nums .u32 l).toArray) (.int .i64 (j : Int))).run Try.prog W = .ok (.int .u32 (at0 l j)) W := fun W => index8 l hl8 j hlt W
          have HB5 := Aside0.mk (below_alloc HO.out.2 (.cells #[.int .u8 (at0 l j / 16777216 % 256), .int .u8 (at0 l j / 65536 % 256), .int .u8 (at0 l j / 256 % 256), .int .u8 (at0 l j % 256)] 5))
          go_wp2_with (at_builtin; refine print_append_row (w0 := w) w.heap.size rfl (.tmp 36) (.tmp 48) 22 5 .u8 1 rfl Try.underlying22 info5' (by decide) _ (outP l j) (b4 (at0 l j)) _ 4 4 rfl rfl (HO.out.1.alloc _) (four_reads _ _ _ _ _) HB5.out HB5.out.size (by rw [outP_length]; omega) ?_; intro v4 w4 hO4 hB4 hg_ hat_; clear hg_ hat_; have HO4 := Aside0.mk (show _ ∧ _ from And.intro hO4 hB4); clear hO4 hB4)
          go_roundw
          case rel => exact ⟨j + 1, by go_num, ⟨by omega⟩, HO4⟩
          case measure => simp [intOf]; omega
        · obtain rfl : j = 8 := by omega
          have hlt2 : decide ((((8 : Nat) : Int)) < 8) = false := by simp
          go_wp2_with fail
          go_ret
          refine ⟨_, rfl, ?_, HO.out.2⟩
          have e : sumL b = outP l 8 := by rw [HLL.out, HSS.out, HKN.out, HNN.out, HDB.out]; rfl
          rw [e]
          exact HO.out.1
end Go.Proofs.Ytpllmkcbkdahbaa.Sha
