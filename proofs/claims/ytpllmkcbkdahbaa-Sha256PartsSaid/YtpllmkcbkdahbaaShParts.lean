/- The walk of the law Sha256Parts: block by block by hand, as sha256.Sum. -/
import Derived.Test.YtpllmkcbkdahbaaShAwake
import Derived.Test.YtpllmkcbkdahbaaShSumR
namespace Go.Proofs.Ytpllmkcbkdahbaa.Sha
open Go.RowKit Go.Proofs.YtpllmkcbkdahbaaW.PrintWords Go.Proofs.YtpllmkcbkdahbaaW.PrintLast Go.Proofs.YtpllmkcbkdahbaaW.PrintMore
set_option linter.unusedVariables false
set_option linter.unusedSimpArgs false

theorem alloc8_ {ops : Array Oper} {o : Oper} {a : Act} {W : World} {K : Act → World → Prop} {Q : Exit → Act → World → Prop} {N : Option Tmp} (hw : Region.wanted o (yielded ops a.tmps) = true) (hN : o.dst = N)
    (ho : o.op = .alloc 28) (h : ∀ (g : Nat) (w1 : World), (Below W.heap.size W w1 ∧ w1.heap[g]? = some (s8O ⟨0, 0, 0, 0, 0, 0, 0, 0⟩) ∧ W.heap.size ≤ g) → K (a.put N (.pointer (some ⟨g, 0, none⟩))) w1) : if Region.wanted o (yielded ops a.tmps) = true then Oper.wp Try.prog o a W K Q else K (a.put N undef) W := by
  rw [if_pos hw]
  subst hN
  have hz := zero28 W
  unfold Oper.wp execOp
  simp only [ho, Instr.alloc, newVar, newRow, Sem.run_bind, hz, Result.andThen_ok, run_newObj_alloc, Sem.run_pure]
  have hNew := New.alloc W (.cells (aggU (List.replicate 8 0)).cells 28)
  exact h _ _ ⟨hNew.below, hNew.at_, Nat.le_refl _⟩
set_option maxHeartbeats 2000000 in
set_option maxRecDepth 100000 in
theorem partsWalk (A : Option Addr) (c : Nat) (b : List Int) (w : World) (hr : ReadsInt w .u8 A b.length b) (hc : b.length ≤ c) :
    Calls Try.prog 6 #[.slice A b.length c] w fun e w' => e = .returned (.bool true) ∧ Below w.heap.size w w' := by
  have HR := Aside0.mk hr
  have HC := Aside0.mk hc
  clear hr hc
  have hmx : (if (b.length : Int) < 0 then 0 else (b.length : Int)) = (b.length : Int) := by rw [if_neg (by omega)]
  go_enter Try.func6, Try.ntmps6
  go_wp2_with fail
  refine (awake_any _).mono ?_
  rintro e w1 ⟨rfl, hb1⟩
  have HB1 := Aside0.mk hb1
  clear hb1
  by_cases hlen : b.length > 2000
  · have hlen' : decide ((b.length : Int) > 2000) = true := by simp; omega
    go_wp2_with fail
    go_ret
    exact ⟨rfl, HB1.out⟩
  have hlen' : decide ((b.length : Int) > 2000) = false := by simp; omega
  have HL := Aside0.mk (show b.length ≤ 2000 from by omega)
  clear hlen
  go_wp2_with (at_builtin; refine print_append_row (w0 := w) w.heap.size rfl (.const (.slice none 0 0)) (.tmp 16) 22 5 .u8 1 rfl Try.underlying22 info5' (by decide) _ [] b A b.length c rfl rfl (own_nil _ _ _ _) (HR.out.below HB1.out) HB1.out HB1.out.size (by have := HL.out; simp; omega) ?_; intro v2 w2 hO2 hB2 hg_ hat_; clear hg_ hat_; have HO2 := Aside0.mk hO2; have HB2 := Aside0.mk hB2; clear hO2 hB2)
  refine (padA (b.length : Int) b.length _ hmx (by have := HL.out; omega)).mono ?_
  rintro e w3 ⟨rfl, hg3, hb3⟩
  have HG3 := Aside0.mk (reads_block hg3 rfl (by rw [padL_length]; unfold padN; omega))
  have HB3 := Aside0.mk (HB2.out.trans (hb3.mono HB2.out.size))
  have HO3 := Aside0.mk (own_keep HO2.out hb3)
  clear hg3 hb3
  have hm64 : ((padded b).length : Int) % 64 = 0 := by have := padded_length b; omega
  go_wp2_with (at_builtin; refine print_append_row (w0 := w) w.heap.size rfl (.tmp 17) (.tmp 20) 22 5 .u8 1 rfl Try.underlying22 info5' (by decide) _ ([] ++ b) (padL b.length) _ _ _ rfl rfl HO3.out HG3.out HB3.out HB3.out.size (by have := HL.out; rw [padL_length]; unfold padN; simp; omega) ?_; intro v4 w4 hO4 hB4 hg_ hat_; clear hg_ hat_; have HO4 := Aside0.mk (show w4.ownsRow w.heap.size 5 1 v4 (padded b).length (nums .u8 (padded b)) from hO4); have HB4 := Aside0.mk hB4; clear hO4 hB4; obtain ⟨A4, c4, rfl, hR4⟩ := own_reads HO4.out)
  have HR4 := Aside0.mk hR4
  have HC4 := Aside0.mk (show (padded b).length ≤ c4 from by
    rcases HO4.out.2 with ⟨h1, h2⟩ | ⟨g, cap, cur, h1, _, _, h2, _⟩
    · omega
    · injection h1 with _ _ h3; omega)
  clear hR4 HO3 HO2 HG3
  refine (startRef_any _).mono ?_
  rintro e w5 ⟨rfl, hb5⟩
  have HB5 := Aside0.mk hb5
  clear hb5
  go_wp2_with (first | (refine wpList_alloc_row rfl 28 rfl _ (zero28 _) ?_; intro w6 hN6; have HN6 := Aside0.mk hN6; clear hN6) | (refine wpList_store_row' rfl 28 (.tmp 4) (.tmp 26) rfl w5.heap.size (nums .u32 startL).toArray rfl rfl 28 _ HN6.out.at_ size28 rfl (nums_one _ _) ?_; intro w7 hU7; have HU7 := Aside0.mk hU7; clear hU7))
  obtain ⟨gs, hgs⟩ : ∃ gs, gs = w5.heap.size := ⟨_, rfl⟩
  have HS := Aside0.mk (show Below w4.heap.size w4 w7 ∧ w7.heap[gs]? = some (s8O (absorb start8 (padded b) 0)) ∧ w4.heap.size ≤ gs from by
    subst hgs
    exact ⟨HU7.out.below (HB5.out.trans (HN6.out.below.mono HB5.out.size)) HB5.out.size, HU7.out.at_, HB5.out.size⟩)
  rw [← hgs]
  obtain ⟨N, hN⟩ : ∃ N, N = (padded b).length / 64 := ⟨_, rfl⟩
  have HN := Aside0.mk (show (padded b).length = 64 * N ∧ (padded b).length ≤ 4000 from by have h1 := padded_length b; have h2 := padded_bound b; have h3 := HL.out; rw [hN]; omega)
  have HNN := Aside0.mk hN
  clear hgs hN HU7 HN6 HB5
  obtain ⟨d, hd⟩ : ∃ d, d = padded b := ⟨_, rfl⟩
  have HDB := Aside0.mk hd
  rw [← hd] at HS HN HNN HR4 HC4 ⊢
  clear hd HO4
  go_loopw [5] (fun v5 wr => ∃ (k j : Nat), v5 = .int .i64 (j : Int) ∧ Aside0 (j = 64 * k ∧ k ≤ N) ∧ Aside0 (Below w4.heap.size w4 wr ∧ wr.heap[gs]? = some (s8O (absorb start8 d k)) ∧ w4.heap.size ≤ gs)) (fun v5 _ => d.length - (intOf v5).toNat)
  case atStart => exact ⟨0, 0, rfl, ⟨by omega⟩, HS⟩
  case round =>
    clear HS
    obtain ⟨k, j, rfl, HK, HS⟩ := hrel
    by_cases hlt : k < N
    · have hgt' : decide ((j : Int) < (d.length : Int)) = true := by have := HK.out; have := HN.out; simp; omega
      have hj64 : j + 64 ≤ d.length := by have := HK.out; have := HN.out; omega
      have hw : wrap64 ((j : Int) + 64) = (j : Int) + 64 := by have := HK.out; have := HN.out; unfold wrap64; omega
      obtain ⟨A', hmid, hread⟩ := mid64 A4 c4 d j hj64 HC4.out
      have hc64 : 64 ≤ c4 - j := by have := HC4.out; omega
      obtain ⟨s, hs⟩ : ∃ s, s = absorb start8 d k := ⟨_, rfl⟩
      rw [← hs] at HS
      have HSS := Aside0.mk hs
      have HSU := Aside0.mk (show s.U from by rw [hs]; exact absorb_u d k)
      obtain ⟨x, hx⟩ : ∃ x, x = (d.drop j).take 64 := ⟨_, rfl⟩
      have HF2x := Aside0.mk (show ReadsInt w4 .u8 A' 64 x from by rw [hx]; exact hread w4 HR4.out)
      have HDD := Aside0.mk (show x = sixtyfour d k from by rw [hx, HK.out.1]; rfl)
      clear hs hx hread hlt
      go_wp2_with fail
      have HS8p := Aside0.mk (show Below w4.heap.size w4 wr.drew ∧ wr.drew.heap[gs]? = some (s8O s) from ⟨below_drew HS.out.1, HS.out.2.1⟩)
      -- BEGIN S12
      refine start_ (n := 13) (S := fun w' => w'.heap[gs]? = some (s8O s)) (ds := [11]) #[false, false, false, false, false, false, false, false, false, false, false, false, false] (by kernel_rfl) rfl rfl (HS.out.2.1) (fun hHeld => ?_)
      refine pure_ (i := 1) (N := some 35) (v := ?_) (a' := ?_) #[false, true, false, false, false, false, false, false, false, false, false, false, false] rfl rfl (by kernel_rfl) (fun _ _ _ h => h) (Or.inl ⟨by rfl, ?_⟩) ?_ ?_
      rotate_left
      · intro w'
        go_simp
        with_reducible rfl
      rotate_left
      · simp only [Act.put, List.setIfInBounds_toArray, List.set_cons_zero, List.set_cons_succ, i64_w, i32_w]
        rfl
      refine pure_ (i := 2) (N := some 36) (v := ?_) (a' := ?_) #[false, true, true, false, false, false, false, false, false, false, false, false, false] rfl rfl (by kernel_rfl) (fun _ _ _ h => h) (Or.inl ⟨by rfl, ?_⟩) ?_ ?_
      rotate_left
      · intro w'
        go_simp
        with_reducible rfl
      rotate_left
      · simp only [Act.put, List.setIfInBounds_toArray, List.set_cons_zero, List.set_cons_succ, i64_w, i32_w]
        rfl
      refine pure_ (i := 3) (N := some 37) (v := ?_) (a' := ?_) #[false, true, true, true, false, false, false, false, false, false, false, false, false] rfl rfl (by kernel_rfl) (fun _ _ _ h => h) (Or.inl ⟨by rfl, ?_⟩) ?_ ?_
      rotate_left
      · intro w'
        go_simp
        with_reducible rfl
      rotate_left
      · simp only [Act.put, List.setIfInBounds_toArray, List.set_cons_zero, List.set_cons_succ, i64_w, i32_w]
        rfl
      refine pure_ (i := 4) (N := some 38) (v := ?_) (a' := ?_) #[false, true, true, true, true, false, false, false, false, false, false, false, false] rfl rfl (by kernel_rfl) (fun _ _ _ h => h) (Or.inl ⟨by rfl, ?_⟩) ?_ ?_
      rotate_left
      · intro w'
        go_simp
        with_reducible rfl
      rotate_left
      · simp only [Act.put, List.setIfInBounds_toArray, List.set_cons_zero, List.set_cons_succ, i64_w, i32_w]
        rfl
      refine pure_ (i := 5) (N := some 39) (v := ?_) (a' := ?_) #[false, true, true, true, true, true, false, false, false, false, false, false, false] rfl rfl (by kernel_rfl) (fun _ _ _ h => h) (Or.inl ⟨by rfl, ?_⟩) ?_ ?_
      rotate_left
      · intro w'
        go_simp
        with_reducible rfl
      rotate_left
      · simp only [Act.put, List.setIfInBounds_toArray, List.set_cons_zero, List.set_cons_succ, i64_w, i32_w]
        rfl
      refine take_ (i := 0) (N := some 34) (v := ?_) (a' := ?_) #[true, true, true, true, true, true, false, false, false, false, false, false, false] rfl rfl (by kernel_rfl) (fun _ _ _ h => h) (Or.inl ⟨by rfl, ?_⟩) hHeld ?_ ?_
      rotate_left
      · intro w' s0
        refine load8_run (x := .tmp 4) ?_ ?_ s0 <;> rfl
      rotate_left
      · simp only [Act.put, List.setIfInBounds_toArray, List.set_cons_zero, List.set_cons_succ, i64_w, i32_w]
        rfl
      refine join_ (σ := Nat) 2 #[true, true, true, true, true, true, true, true, true, true, true, false, false] (fun g6 => [(40, .tuple #[s8V (blk s x), .bool true]), (6, .pointer (some ⟨g6, 0, none⟩)), (33, .tuple #[s8V (blk s x), .bool true]), (41, s8V (blk s x)), (42, .bool true)]) (fun g6 w' => w'.heap[gs]? = some (s8O s) ∧ Below w4.heap.size w4 w' ∧ w'.heap[g6]? = some (s8O ⟨0, 0, 0, 0, 0, 0, 0, 0⟩) ∧ gs < g6) ?_ ?_
      rotate_left
      · intro hCont
        refine two_ (i := 6) (j := 10) (Ni := some 40) (Nj := some 6) #[true, true, true, true, true, true, true, false, false, false, false, false, false] #[true, true, true, true, true, true, false, false, false, false, true, false, false] rfl rfl rfl rfl (by kernel_rfl) (by decide) (by decide) (fun K hK => ?_) (fun K hK => ?_)
        · skip
          refine goes_ Try.func11 (by kernel_rfl) rfl #[s8V s, .slice A' 64 (c4 - j)] (by rfl) rfl rfl (by simp only [List.map_toArray, List.map_cons, List.map_nil]; rfl) ?_
          with_reducible refine (blockA64 s A' (c4 - j) x _ (HF2x.out.below HS8p.out.1) hc64).mono ?_
          rintro x_ wa ⟨rfl, hb9⟩
          have Hwa := Aside0.mk (And.intro (HS8p.out.1.trans (hb9.mono HS8p.out.1.size)) ((hb9.block gs (blk_lt HS8p.out.2)).trans HS8p.out.2))
          refine ⟨_, rfl, ?_⟩
          refine hK.out _ _ (Hwa.out.2) (fun hHeld => ?_)
          clear hK K
          refine norm_ (a' := ?_) ?_ ?_
          rotate_left
          · show Act.put _ (some 40) _ = _
            simp only [Act.put, List.setIfInBounds_toArray, List.set_cons_zero, List.set_cons_succ, i64_w, i32_w]
            rfl
          refine pure_ (i := 7) (N := some 33) (v := ?_) (a' := ?_) #[true, true, true, true, true, true, true, true, false, false, false, false, false] rfl rfl (by kernel_rfl) (fun _ _ _ h => h) (Or.inl ⟨by rfl, ?_⟩) ?_ ?_
          rotate_left
          · intro w'
            go_simp
            with_reducible rfl
          rotate_left
          · simp only [Act.put, List.setIfInBounds_toArray, List.set_cons_zero, List.set_cons_succ, i64_w, i32_w]
            rfl
          refine pure_ (i := 8) (N := some 41) (v := ?_) (a' := ?_) #[true, true, true, true, true, true, true, true, true, false, false, false, false] rfl rfl (by kernel_rfl) (fun _ _ _ h => h) (Or.inl ⟨by rfl, ?_⟩) ?_ ?_
          rotate_left
          · intro w'
            go_simp
            with_reducible rfl
          rotate_left
          · simp only [Act.put, List.setIfInBounds_toArray, List.set_cons_zero, List.set_cons_succ, i64_w, i32_w]
            rfl
          refine pure_ (i := 9) (N := some 42) (v := ?_) (a' := ?_) #[true, true, true, true, true, true, true, true, true, true, false, false, false] rfl rfl (by kernel_rfl) (fun _ _ _ h => h) (Or.inl ⟨by rfl, ?_⟩) ?_ ?_
          rotate_left
          · intro w'
            go_simp
            with_reducible rfl
          rotate_left
          · simp only [Act.put, List.setIfInBounds_toArray, List.set_cons_zero, List.set_cons_succ, i64_w, i32_w]
            rfl
          refine one_ (i := 10) (N := some 6) #[true, true, true, true, true, true, true, true, true, true, true, false, false] rfl rfl (by kernel_rfl) (by decide) (fun K hK => ?_)
          refine alloc8_ (by rfl) rfl rfl ?_
          intro g9 wb hN9
          have Hwb := Aside0.mk (And.intro (Hwa.out.1.trans (hN9.1.mono Hwa.out.1.size)) ((hN9.1.block gs (blk_lt Hwa.out.2)).trans Hwa.out.2))
          have HG := Aside0.mk (show wb.heap[g9]? = some (s8O ⟨0, 0, 0, 0, 0, 0, 0, 0⟩) ∧ gs < g9 from ⟨hN9.2.1, Nat.lt_of_lt_of_le (blk_lt Hwa.out.2) hN9.2.2⟩)
          clear hN9
          refine hK.out _ _ (Hwb.out.2) (fun hHeld => ?_)
          clear hK K
          refine norm_ (a' := ?_) ?_ ?_
          rotate_left
          · show Act.put _ (some 6) _ = _
            simp only [Act.put, List.setIfInBounds_toArray, List.set_cons_zero, List.set_cons_succ, i64_w, i32_w]
            rfl
          exact norm_ (by simp only [putAll, Act.put, List.setIfInBounds_toArray, List.set_cons_zero, List.set_cons_succ]) (hCont g9 _ ⟨Hwb.out.2, Hwb.out.1, HG.out.1, HG.out.2⟩)
        · skip
          refine alloc8_ (by rfl) rfl rfl ?_
          intro g9 wa hN9
          have Hwa := Aside0.mk (And.intro (HS8p.out.1.trans (hN9.1.mono HS8p.out.1.size)) ((hN9.1.block gs (blk_lt HS8p.out.2)).trans HS8p.out.2))
          have HG := Aside0.mk (show wa.heap[g9]? = some (s8O ⟨0, 0, 0, 0, 0, 0, 0, 0⟩) ∧ gs < g9 from ⟨hN9.2.1, Nat.lt_of_lt_of_le (blk_lt HS8p.out.2) hN9.2.2⟩)
          clear hN9
          refine hK.out _ _ (Hwa.out.2) (fun hHeld => ?_)
          clear hK K
          refine norm_ (a' := ?_) ?_ ?_
          rotate_left
          · show Act.put _ (some 6) _ = _
            simp only [Act.put, List.setIfInBounds_toArray, List.set_cons_zero, List.set_cons_succ, i64_w, i32_w]
            rfl
          refine one_ (i := 6) (N := some 40) #[true, true, true, true, true, true, true, false, false, false, true, false, false] rfl rfl (by kernel_rfl) (by decide) (fun K hK => ?_)
          refine goes_ Try.func11 (by kernel_rfl) rfl #[s8V s, .slice A' 64 (c4 - j)] (by rfl) rfl rfl (by simp only [List.map_toArray, List.map_cons, List.map_nil]; rfl) ?_
          with_reducible refine (blockA64 s A' (c4 - j) x _ (HF2x.out.below Hwa.out.1) hc64).mono ?_
          rintro x_ wb ⟨rfl, hb9⟩
          have Hwb := Aside0.mk (And.intro (Hwa.out.1.trans (hb9.mono Hwa.out.1.size)) ((hb9.block gs (blk_lt Hwa.out.2)).trans Hwa.out.2))
          refine ⟨_, rfl, ?_⟩
          have HG2 := Aside0.mk (show wb.heap[g9]? = some (s8O ⟨0, 0, 0, 0, 0, 0, 0, 0⟩) ∧ gs < g9 from ⟨(hb9.block g9 (blk_lt HG.out.1)).trans HG.out.1, HG.out.2⟩)
          refine hK.out _ _ (Hwb.out.2) (fun hHeld => ?_)
          clear hK K
          refine norm_ (a' := ?_) ?_ ?_
          rotate_left
          · show Act.put _ (some 40) _ = _
            simp only [Act.put, List.setIfInBounds_toArray, List.set_cons_zero, List.set_cons_succ, i64_w, i32_w]
            rfl
          refine pure_ (i := 7) (N := some 33) (v := ?_) (a' := ?_) #[true, true, true, true, true, true, true, true, false, false, true, false, false] rfl rfl (by kernel_rfl) (fun _ _ _ h => h) (Or.inl ⟨by rfl, ?_⟩) ?_ ?_
          rotate_left
          · intro w'
            go_simp
            with_reducible rfl
          rotate_left
          · simp only [Act.put, List.setIfInBounds_toArray, List.set_cons_zero, List.set_cons_succ, i64_w, i32_w]
            rfl
          refine pure_ (i := 8) (N := some 41) (v := ?_) (a' := ?_) #[true, true, true, true, true, true, true, true, true, false, true, false, false] rfl rfl (by kernel_rfl) (fun _ _ _ h => h) (Or.inl ⟨by rfl, ?_⟩) ?_ ?_
          rotate_left
          · intro w'
            go_simp
            with_reducible rfl
          rotate_left
          · simp only [Act.put, List.setIfInBounds_toArray, List.set_cons_zero, List.set_cons_succ, i64_w, i32_w]
            rfl
          refine pure_ (i := 9) (N := some 42) (v := ?_) (a' := ?_) #[true, true, true, true, true, true, true, true, true, true, true, false, false] rfl rfl (by kernel_rfl) (fun _ _ _ h => h) (Or.inl ⟨by rfl, ?_⟩) ?_ ?_
          rotate_left
          · intro w'
            go_simp
            with_reducible rfl
          rotate_left
          · simp only [Act.put, List.setIfInBounds_toArray, List.set_cons_zero, List.set_cons_succ, i64_w, i32_w]
            rfl
          exact norm_ (by simp only [putAll, Act.put, List.setIfInBounds_toArray, List.set_cons_zero, List.set_cons_succ]) (hCont g9 _ ⟨Hwb.out.2, Hwb.out.1, HG2.out.1, HG2.out.2⟩)
      rintro g6 w' ⟨hF1, hF2, hF3, hF4⟩
      have hHeld : w'.heap[gs]? = some (s8O s) := hF1
      have HF1 := Aside0.mk hF1
      have HF2 := Aside0.mk hF2
      have HF3 := Aside0.mk hF3
      have HF4 := Aside0.mk hF4
      clear hF1 hF2 hF3 hF4
      refine norm_ (a' := ?_) ?_ ?_
      rotate_left
      · simp only [putAll, Act.put, List.setIfInBounds_toArray, List.set_cons_zero, List.set_cons_succ]
        rfl
      refine last_ (i := 11) (N := none) #[true, true, true, true, true, true, true, true, true, true, true, true, false] rfl rfl (by kernel_rfl) (by decide) (fun K hK => ?_)
      refine store8_ g6 ⟨0, 0, 0, 0, 0, 0, 0, 0⟩ (blk s x) (.tmp 6) (.tmp 41) (by rfl) rfl rfl rfl rfl HF3.out ?_
      intro w10 hU10
      have HU10 := Aside0.mk hU10
      clear hU10
      refine hK.out _ _ ?_
      clear hK K
      refine pure_ (i := 12) (N := some 7) (v := ?_) (a' := ?_) #[true, true, true, true, true, true, true, true, true, true, true, true, true] rfl rfl (by kernel_rfl) (fun _ _ _ h => h) (Or.inl ⟨by rfl, ?_⟩) ?_ ?_
      rotate_left
      · intro w'
        go_simp
        with_reducible rfl
      rotate_left
      · simp only [Act.put, List.setIfInBounds_toArray, List.set_cons_zero, List.set_cons_succ, i64_w, i32_w]
        rfl
      refine done_ (by kernel_rfl) ?_
      -- END S12
      have HX := Aside0.mk (show w10.heap[gs]? = some (s8O s) from HU10.out.keep HF1.out (by have := HF4.out; omega))
      go_wp2_with (first | (refine wpList_load_row rfl 28 (.tmp 6) rfl g6 rfl 28 _ (0, 0) _ HU10.out.at_ Try.underlying28 rfl size28 ?_; have tokM : True := trivial) | (refine wpList_store_row' rfl 28 (.tmp 4) (.tmp 45) rfl gs (nums .u32 (blk s x).list).toArray rfl rfl 28 _ HX.out size28 rfl (nums_one _ _) ?_; intro w11 hU11; have HU11 := Aside0.mk hU11; clear hU11))
      go_roundw
      case rel =>
        have hk := HK.out
        have hn := HN.out
        have hge := HS.out.2.2
        have hF4 := HF4.out
        refine ⟨k + 1, j + 64, by go_num, ⟨by omega⟩, ⟨HU11.out.below (HU10.out.below HF2.out (by omega)) (by omega), ?_, hge⟩⟩
        have h : w11.heap[gs]? = some (s8O (blk s x)) := HU11.out.at_
        rw [HSS.out, HDD.out] at h
        exact h
      case measure => rw [hw]; exact msr j d.length hj64
    · have hkN : k = N := by have := HK.out; omega
      have hgt' : decide ((j : Int) < (d.length : Int)) = false := by have := HK.out; have := HN.out; simp; omega
      have hgn : decide (j < d.length) = false := by have := HK.out; have := HN.out; simp; omega
      have hnn : d.length ≤ j := by have := HK.out; have := HN.out; omega
      obtain ⟨s, hs⟩ : ∃ s, s = absorb start8 d k := ⟨_, rfl⟩
      rw [← hs] at HS
      have HSS := Aside0.mk hs
      have HKN := Aside0.mk hkN
      clear hs hkN hlt
      obtain ⟨wo, rfl⟩ : ∃ wo : World, wo = wr := ⟨_, rfl⟩
      have HB0 := Aside0.mk (HB4.out.trans (HS.out.1.mono HB4.out.size))
      obtain ⟨l, hl⟩ : ∃ l, l = s.list := ⟨_, rfl⟩
      have hl8 : l.length = 8 := by rw [hl]; rfl
      have HL8 := Aside0.mk (show wo.heap[gs]? = some (.cells (nums .u32 l).toArray 28) from by rw [hl]; exact HS.out.2.1)
      have hsz : (Try.prog.info? 28).map (·.size) = some (nums .u32 l).toArray.size := by rw [size28]; simp [nums, hl8]
      have HLL := Aside0.mk hl
      clear hl
      go_wp2_with (refine wpList_load_row rfl 28 (.tmp 4) rfl gs rfl 28 (nums .u32 l).toArray (0, 0) _ HL8.out Try.underlying28 rfl hsz ?_; have tokM : True := trivial)
      go_loopw [8, 47] (fun v6 v33 wr => ∃ j : Nat, v33 = .int .i64 j ∧ Aside0 (j ≤ 8) ∧ Aside0 (wr.ownsRow w.heap.size 5 1 v6 (outP l j).length (nums .u8 (outP l j)) ∧ Below w.heap.size w wr)) (fun _ v33 _ => 8 - (intOf v33).toNat)
      case atStart => exact ⟨0, rfl, ⟨by omega⟩, ⟨own_nil _ _ _ _, HB0.out⟩⟩
      case round =>
        obtain ⟨j, rfl, HJ, HO⟩ := hrel
        have hj := HJ.out
        by_cases hlt : j < 8
        · have hlt2 : decide ((j : Int) < 8) = true := by simp; omega
          have hidx : ∀ W : World, (Instr.index 28 (.agg (nums .u32 l).toArray) (.int .i64 (j : Int))).run Try.prog W = .ok (.int .u32 (at0 l j)) W := fun W => index8 l hl8 j hlt W
          have HB5 := Aside0.mk (below_alloc HO.out.2 (.cells #[.int .u8 (at0 l j / 16777216 % 256), .int .u8 (at0 l j / 65536 % 256), .int .u8 (at0 l j / 256 % 256), .int .u8 (at0 l j % 256)] 5))
          go_wp2_with (at_builtin; refine print_append_row (w0 := w) w.heap.size rfl (.tmp 50) (.tmp 62) 22 5 .u8 1 rfl Try.underlying22 info5' (by decide) _ (outP l j) (b4 (at0 l j)) _ 4 4 rfl rfl (HO.out.1.alloc _) (four_reads _ _ _ _ _) HB5.out HB5.out.size (by rw [outP_length]; omega) ?_; intro v4 w4 hO4 hB4 hg_ hat_; clear hg_ hat_; have HO4 := Aside0.mk (show _ ∧ _ from And.intro hO4 hB4); clear hO4 hB4)
          go_roundw
          case rel => exact ⟨j + 1, by go_num, ⟨by omega⟩, HO4⟩
          case measure => simp [intOf]; omega
        · obtain rfl : j = 8 := by omega
          have hlt2 : decide ((((8 : Nat) : Int)) < 8) = false := by simp
          go_wp2_with fail
          refine (sumA A c b _ (HR.out.below HO.out.2) HC.out (by have := HL.out; omega)).mono ?_
          rintro e w12 ⟨v12, rfl, hO12, hb12⟩
          have e : sumL b = outP l 8 := by rw [HLL.out, HSS.out, HKN.out, HNN.out, HDB.out]; rfl
          have HB12 := Aside0.mk (HO.out.2.trans (hb12.mono HO.out.2.size))
          have HO12 := Aside0.mk (own_less hO12 HO.out.2.size)
          have HO13 := Aside0.mk (show w12.ownsRow w.heap.size 5 1 _ (sumL b).length (nums .u8 (sumL b)) from by rw [e]; exact own_keep HO.out.1 hb12)
          clear hO12 hb12 e
          go_wp2_with fail
          refine (same_own HO13.out HO12.out).mono ?_
          rintro e w13 ⟨rfl, hd⟩
          have HB13 := Aside0.mk (HB12.out.trans (hd.below.mono HB12.out.size))
          clear hd
          go_wp2_with fail
          go_ret
          exact ⟨rfl, HB13.out⟩
end Go.Proofs.Ytpllmkcbkdahbaa.Sha
