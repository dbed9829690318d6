/- limbs' Pick, of sixteen numbers of one word; with a trace, or none. -/
import Derived.Test.YtjpibgehhgaopaaGreatZ36
namespace Go.Proofs.YtjpibgehhgaopaaGreat.Top
open Go.RowKit Go.Proofs.YtjpibgehhgaopaaGreatW.PrintWords Go.Proofs.YtjpibgehhgaopaaGreatW.PrintLast Go.Proofs.YtjpibgehhgaopaaGreat.PTopGenerated
set_option linter.unusedVariables false
set_option linter.unusedSimpArgs false

theorem or_nil_l (x : Int) (h : U64 x) : Go.bits .or .u64 0 x = x := by
  rw [or64, show bv6 0 = 0#64 by decide, BitVec.zero_or, bv6_to x h]
theorem or_nil_r (x : Int) (h : U64 x) : Go.bits .or .u64 x 0 = x := by
  rw [or64, show bv6 0 = 0#64 by decide, BitVec.or_zero, bv6_to x h]
theorem and_nil_r (x : Int) : Go.bits .and .u64 x 0 = 0 := by
  rw [and64, show bv6 0 = 0#64 by decide, BitVec.and_zero]
  rfl
/-- What Pick has gathered ahead of number k. -/
def pickF (f : Nat → Nat) (iw k : Nat) : Nat := if iw < k then f iw else 0
theorem pick_step (f : Nat → Nat) (iw k : Nat) (hf : ∀ j, f j < 18446744073709551616) :
    Go.bits .or .u64 ((pickF f iw k : Nat) : Int) (Go.bits .and .u64 ((f k : Nat) : Int) (maskI (decide ((k : Int) = (iw : Int))))) = ((pickF f iw (k + 1) : Nat) : Int) := by
  have hU : ∀ j, U64 ((f j : Nat) : Int) := fun j => by have := hf j; unfold U64; omega
  have hP : U64 ((pickF f iw k : Nat) : Int) := by
    unfold pickF
    split
    · exact hU _
    · unfold U64
      omega
  by_cases h : k = iw
  · subst h
    have e1 : pickF f k k = 0 := by unfold pickF; rw [if_neg (by omega)]
    have e2 : pickF f k (k + 1) = f k := by unfold pickF; rw [if_pos (by omega)]
    rw [e1, e2, decide_eq_true rfl, show maskI true = 18446744073709551615 from rfl, and_full _ (hf k)]
    exact or_nil_l _ (hU k)
  · have e2 : pickF f iw (k + 1) = pickF f iw k := by
      unfold pickF
      by_cases h1 : iw < k
      · rw [if_pos h1, if_pos (by omega)]
      · rw [if_neg h1, if_neg (by omega)]
    rw [e2, decide_eq_false (by omega), show maskI false = 0 from rfl, and_nil_r]
    exact or_nil_r _ hP
theorem pickF_lt {f : Nat → Nat} (hf : ∀ j, f j < 18446744073709551616) (iw k : Nat) : pickF f iw k < 18446744073709551616 := by
  unfold pickF
  split
  · exact hf _
  · omega
theorem St.setNew {B g i : Nat} {w W : World} (h : St B none w W) (hB : B ≤ w.heap.size) (hg : w.heap.size ≤ g) (u : Value) : St B none w (W.setCell ⟨g, i, none⟩ u) :=
  ⟨h.bel.setCell (by simp; omega) u, fun k o hk h1 h2 h3 => by
    rw [Below.heap_setCell _ _ _ _ (by show k ≠ g; have := blk_lt hk; omega)]
    exact h.stay k o hk h1 h2 h3⟩
theorem msr16 (k : Nat) (h : k < 16) : 16 - (intOf (.int .i64 ((k + 1 : Nat) : Int))).toNat < 16 - (intOf (.int .i64 (k : Int))).toNat := msr1' k 16 h
set_option maxHeartbeats 2000000 in
set_option maxRecDepth 100000 in
theorem pickT (B : Nat) (t : Option Nat) (n base iw : Nat) (f : Nat → Nat) (A : Option Addr) (c : Nat) (w : World) (hT : T w B t n) (hn : n ≤ 900000000) (h : Rw base w (.slice A 16 c) 16 f) (hf : ∀ j, f j < 18446744073709551616) (hi : iw < 16) (hBw : B ≤ w.heap.size) :
    Calls Tryz.prog 210 #[ptrV t, .slice A 16 c, .int .u64 (iw : Int)] w fun e w' => ∃ A' c', e = .returned (.slice A' 1 c') ∧ Num w' A' c' [f iw] ∧ St B none w w' ∧ T w' B t (n + 16) := by
  obtain ⟨g, c', X0, d0, hv, _⟩ := h.at 0 (by omega)
  injection hv with hv1 hv2 hv3
  subst hv1
  subst hv3
  have HR := Aside0.mk h
  have HAt : ∀ (W : World) (k : Nat), St B none w W → k < 16 → ∃ X d, W.cell? ⟨g, k, none⟩ = some (.slice X 1 d) ∧ Num W X d [f k] := fun W k hs hk => by
    obtain ⟨g', c', X, d, hv, _, h1, h2⟩ := (HR.out.st hs).at k hk
    injection hv with hv1
    injection hv1 with hv1
    injection hv1 with hv1
    subst hv1
    exact ⟨X, d, h1, h2⟩
  have HA := Aside0.mk HAt
  have HF := Aside0.mk (And.intro hf (And.intro hT hBw))
  clear h HAt hf hT hBw hv2
  go_enter Tryz.func210, Tryz.ntmps210
  go_wp2_with fail
  go_loopw [7, 17] (fun v7 v17 wr => ∃ k : Nat, v17 = .int .i64 (k : Int) ∧ (v7 = .int .i64 0 ∧ k = 0 ∨ v7 = .int .i64 1 ∧ 1 ≤ k) ∧ Aside0 (k ≤ 16 ∧ wr = w)) (fun _ v17 _ => 16 - (intOf v17).toNat)
  case atStart => exact ⟨0, rfl, .inl ⟨rfl, rfl⟩, ⟨by omega, rfl⟩⟩
  case round =>
    obtain ⟨k, rfl, hv7, HK⟩ := hrel
    obtain ⟨hk16, hwr⟩ := HK.out
    have hwr' := hwr.symm
    clear hwr
    subst hwr'
    by_cases hlt : k < 16
    · have HLT := Aside0.mk hlt
      have t1 : decide ((k : Int) < 16) = true := by rw [decide_eq_true_eq]; omega
      have t2 : decide (k < 16) = true := by rw [decide_eq_true_eq]; exact hlt
      have w3 : wrap64 ((k : Int) + 1) = ((k + 1 : Nat) : Int) := wrap64_id (by omega) (by omega)
      have b1 : (0 : Int) ≤ (k : Int) := by omega
      have b2 : (k : Int) < 16 := by omega
      obtain ⟨X, d, hc, _⟩ := HA.out _ k (St.refl _ _ _) hlt
      clear hlt hk16
      rcases hv7 with ⟨rfl, rfl⟩ | ⟨rfl, hk1⟩
      · go_wp2_with fail
        go_roundw
        case rel => exact ⟨1, rfl, .inr ⟨rfl, by omega⟩, ⟨by omega, by first | rfl | trivial⟩⟩
        case measure => decide
      · go_wp2_with fail
        go_roundw
        case rel => exact ⟨k + 1, by first | rfl | exact congrArg (Value.int .i64) w3, .inr ⟨rfl, by omega⟩, ⟨HLT.out, by first | rfl | trivial⟩⟩
        case measure => first | exact msr16 k HLT.out | (rw [w3]; exact msr16 k HLT.out)
    · obtain rfl : k = 16 := by omega
      have t1 : decide (((16 : Nat) : Int) < 16) = false := by decide
      rcases hv7 with ⟨rfl, hk0⟩ | ⟨rfl, hk1⟩
      · omega
      have hmk := make23_1
      clear hk1 hlt hk16
      go_wp2_with fail
      have hb0 := below_alloc (Below.refl w.heap.size w) (.cells #[.int .u64 0] 23)
      have HS0 := Aside0.mk (And.intro (St.of_below (x := none) HF.out.2.2 hb0) (HF.out.2.1.below hb0))
      have hrow : (w.alloc (.cells #[.int .u64 0] 23)).heap[w.heap.size]? = some (rowO [pickF f iw 0]) := heap_alloc_new _ _
      have HRow := Aside0.mk hrow
      clear hb0 hrow hmk
      go_loopw [30] (fun v30 wq => ∃ k : Nat, v30 = .int .i64 (k : Int) ∧ Aside0 (k ≤ 16 ∧ St B none w wq ∧ T wq B t (n + k) ∧ wq.heap[w.heap.size]? = some (rowO [pickF f iw k]))) (fun v30 _ => 16 - (intOf v30).toNat)
      case atStart => exact ⟨0, rfl, ⟨by omega, HS0.out.1, HS0.out.2, HRow.out⟩⟩
      case round =>
        obtain ⟨k, rfl, HJ⟩ := hrel
        by_cases hlt : k < 16
        · have HLT := Aside0.mk hlt
          have t1 : decide ((k : Int) < 16) = true := by rw [decide_eq_true_eq]; omega
          have t2 : decide (k < 16) = true := by rw [decide_eq_true_eq]; exact hlt
          have w3 : wrap64 ((k : Int) + 1) = ((k + 1 : Nat) : Int) := wrap64_id (by omega) (by omega)
          have w4 : IntKind.u64.wrap (k : Int) = (k : Int) := by rw [IntKind.wrap_u64]; omega
          have b1 : (0 : Int) ≤ (k : Int) := by omega
          have b2 : (k : Int) < 16 := by omega
          obtain ⟨X, d, hc, hn'⟩ := HA.out _ k HJ.out.2.1 hlt
          have HN := Aside0.mk hn'
          have HSp := Aside0.mk (spanT B t (n + k) 1 _ HJ.out.2.2.1 (by omega))
          clear hlt hn'
          go_wp2_with fail
          refine HSp.out.mono ?_
          rintro e w5 ⟨rfl, ht5, hs5⟩
          have hrow5 := hs5.stay _ _ HJ.out.2.2.2 (by simp) (by intro cur e; injection e with _ e; simp at e) (by intro cur e; injection e with _ e; simp at e)
          have HJ5 := Aside0.mk (And.intro (HJ.out.2.1.trans hs5) (And.intro ht5 hrow5))
          have HN5 := Aside0.mk (HN.out.st hs5)
          have HEq := Aside0.mk (fun W => equal_any (k : Int) (iw : Int) W (by unfold U64; omega) (by unfold U64; omega))
          have HMk := Aside0.mk (fun W => mask_any (decide ((k : Int) = (iw : Int))) W)
          have HPk := Aside0.mk (pick_step f iw k HF.out.1)
          have hc5 : w5.cell? ⟨w.heap.size, 0, none⟩ = some (.int .u64 ((pickF f iw k : Nat) : Int)) := blk_cell hrow5 0
          have hf5 := frozen_of_row w5 w.heap.size 0 _ _ hrow5
          generalize decide ((k : Int) = (iw : Int)) = p at *
          obtain ⟨acc, hacc⟩ : ∃ acc, acc = pickF f iw k := ⟨_, rfl⟩
          rw [← hacc] at hc5 HPk
          clear hs5 ht5 hrow5 hc
          go_wp2_with fail
          refine (HEq.out _).mono ?_
          rintro e w' ⟨rfl, rfl⟩
          go_wp2_with fail
          refine (HMk.out _).mono ?_
          rintro e w' ⟨rfl, rfl⟩
          go_wp2_with fail
          have HAcc := Aside0.mk (show acc < 18446744073709551616 from hacc ▸ pickF_lt HF.out.1 iw k)
          have HI0 := Aside0.mk (And.intro HJ5.out.1 (And.intro HJ5.out.2.1 (And.intro HJ5.out.2.2 HN5.out)))
          rw [← hacc] at HI0
          obtain ⟨nx, hnx⟩ : ∃ nx, nx = pickF f iw (k + 1) := ⟨_, rfl⟩
          rw [← hnx] at HPk
          have HNX := Aside0.mk hnx
          obtain ⟨xk, hxk⟩ : ∃ xk, xk = f k := ⟨_, rfl⟩
          rw [← hxk] at HPk HI0
          clear hc5 hf5 hacc hnx hxk HJ5 HN5 HN
          go_loopw [44] (fun v44 wq => (v44 = .int .i64 0 ∧ Aside0 (St B none w wq ∧ T wq B t (n + k + 1) ∧ wq.heap[w.heap.size]? = some (rowO [acc]) ∧ Num wq X d [xk])) ∨ (v44 = .int .i64 1 ∧ Aside0 (St B none w wq ∧ T wq B t (n + k + 1) ∧ wq.heap[w.heap.size]? = some (rowO [nx])))) (fun v44 _ => 1 - (intOf v44).toNat)
          case atStart => exact .inl ⟨rfl, HI0⟩
          case round =>
            rcases hrel with ⟨rfl, HQ⟩ | ⟨rfl, HQ⟩
            · have q0 : wr.cell? ⟨w.heap.size, 0, none⟩ = some (.int .u64 (acc : Int)) := blk_cell HQ.out.2.2.1 0
              have q1 := frozen_of_row wr w.heap.size 0 _ _ HQ.out.2.2.1
              have HAT := Aside0.mk (show Calls Tryz.prog 215 #[.slice X 1 d, .int .i64 0] wr.drew (fun e w' => e = .returned (.int .u64 (xk : Int)) ∧ w' = wr.drew) from limbAt X d [xk] 0 wr.drew (HQ.out.2.2.2.below (pw_below_drewN (Below.refl _ _) 1)))
              have hbit : Go.bits .or .u64 (acc : Int) (Go.bits .and .u64 (xk : Int) (maskI p)) = (nx : Int) := HPk.out
              clear HI0
              go_wp2_with fail
              -- BEGIN P16
              refine start_ (n := 12) (S := fun w' => w'.cell? ⟨w.heap.size, 0, none⟩ = some (.int .u64 (acc : Int))) (ds := [11]) #[false, false, false, false, false, false, false, false, false, false, false, false] (by kernel_rfl) rfl rfl (q0) (fun hHeld => ?_)
              refine pure_ (i := 0) (N := some 47) (v := ?_) (a' := ?_) #[true, false, false, false, false, false, false, false, false, false, false, false] rfl rfl (by kernel_rfl) (fun _ _ _ h => h) (Or.inl ⟨by rfl, ?_⟩) ?_ ?_
              rotate_left
              · intro w'
                go_simp
                with_reducible rfl
              rotate_left
              · simp only [Act.put, List.setIfInBounds_toArray, List.set_cons_zero, List.set_cons_succ, i64_w, i32_w]
                rfl
              refine pure_ (i := 1) (N := some 48) (v := ?_) (a' := ?_) #[true, true, false, false, false, false, false, false, false, false, false, false] rfl rfl (by kernel_rfl) (fun _ _ _ h => h) (Or.inl ⟨by rfl, ?_⟩) ?_ ?_
              rotate_left
              · intro w'
                go_simp
                with_reducible rfl
              rotate_left
              · simp only [Act.put, List.setIfInBounds_toArray, List.set_cons_zero, List.set_cons_succ, i64_w, i32_w]
                rfl
              refine pure_ (i := 2) (N := some 49) (v := ?_) (a' := ?_) #[true, true, true, false, false, false, false, false, false, false, false, false] rfl rfl (by kernel_rfl) (fun _ _ _ h => h) (Or.inl ⟨by rfl, ?_⟩) ?_ ?_
              rotate_left
              · intro w'
                go_simp
                with_reducible rfl
              rotate_left
              · simp only [Act.put, List.setIfInBounds_toArray, List.set_cons_zero, List.set_cons_succ, i64_w, i32_w]
                rfl
              refine pure_ (i := 4) (N := some 51) (v := ?_) (a' := ?_) #[true, true, true, false, true, false, false, false, false, false, false, false] rfl rfl (by kernel_rfl) (fun _ _ _ h => h) (Or.inl ⟨by rfl, ?_⟩) ?_ ?_
              rotate_left
              · intro w'
                go_simp
                with_reducible rfl
              rotate_left
              · simp only [Act.put, List.setIfInBounds_toArray, List.set_cons_zero, List.set_cons_succ, i64_w, i32_w]
                rfl
              refine pure_ (i := 5) (N := some 52) (v := ?_) (a' := ?_) #[true, true, true, false, true, true, false, false, false, false, false, false] rfl rfl (by kernel_rfl) (fun _ _ _ h => h) (Or.inl ⟨by rfl, ?_⟩) ?_ ?_
              rotate_left
              · intro w'
                go_simp
                with_reducible rfl
              rotate_left
              · simp only [Act.put, List.setIfInBounds_toArray, List.set_cons_zero, List.set_cons_succ, i64_w, i32_w]
                rfl
              refine pure_ (i := 7) (N := some 54) (v := ?_) (a' := ?_) #[true, true, true, false, true, true, false, true, false, false, false, false] rfl rfl (by kernel_rfl) (fun _ _ _ h => h) (Or.inl ⟨by rfl, ?_⟩) ?_ ?_
              rotate_left
              · intro w'
                go_simp
                with_reducible rfl
              rotate_left
              · simp only [Act.put, List.setIfInBounds_toArray, List.set_cons_zero, List.set_cons_succ, i64_w, i32_w]
                rfl
              refine take_ (i := 3) (N := some 50) (v := ?_) (a' := ?_) #[true, true, true, true, true, true, false, true, false, false, false, false] rfl rfl (by kernel_rfl) (fun _ _ _ h => h) (Or.inl ⟨by rfl, ?_⟩) hHeld ?_ ?_
              rotate_left
              · intro w' s0
                go_simp
                with_reducible rfl
              rotate_left
              · simp only [Act.put, List.setIfInBounds_toArray, List.set_cons_zero, List.set_cons_succ, i64_w, i32_w]
                rfl
              refine one_ (i := 6) (N := some 53) #[true, true, true, true, true, true, true, true, false, false, false, false] rfl rfl (by kernel_rfl) (by decide) (fun K hK => ?_)
              refine goes_ Tryz.func215 (by kernel_rfl) rfl #[.slice X 1 d, .int .i64 0] (by rfl) rfl rfl (by simp only [List.map_toArray, List.map_cons, List.map_nil]; rfl) ?_
              with_reducible refine (HAT.out).mono ?_
              rintro e w8 ⟨rfl, hw8⟩
              have hq8 : w8.cell? ⟨w.heap.size, 0, none⟩ = some (.int .u64 (acc : Int)) := by rw [hw8]; exact q0
              have hf8 : w8.frozen? ⟨w.heap.size, 0, none⟩ = false := by rw [hw8]; exact q1
              refine ⟨_, rfl, ?_⟩
              refine hK.out _ _ (hq8) (fun hHeld => ?_)
              clear hK K
              refine norm_ (a' := ?_) ?_ ?_
              rotate_left
              · show Act.put _ (some 53) _ = _
                simp only [Act.put, List.setIfInBounds_toArray, List.set_cons_zero, List.set_cons_succ, i64_w, i32_w]
                rfl
              refine pure_ (i := 8) (N := some 55) (v := ?_) (a' := ?_) #[true, true, true, true, true, true, true, true, true, false, false, false] rfl rfl (by kernel_rfl) (fun _ _ _ h => h) (Or.inl ⟨by rfl, ?_⟩) ?_ ?_
              rotate_left
              · intro w'
                go_simp
                with_reducible rfl
              rotate_left
              · simp only [Act.put, List.setIfInBounds_toArray, List.set_cons_zero, List.set_cons_succ, i64_w, i32_w]
                rfl
              refine pure_ (i := 9) (N := some 56) (v := ?_) (a' := ?_) #[true, true, true, true, true, true, true, true, true, true, false, false] rfl rfl (by kernel_rfl) (fun _ _ _ h => h) (Or.inl ⟨by rfl, ?_⟩) ?_ ?_
              rotate_left
              · intro w'
                go_simp
                with_reducible rfl
              rotate_left
              · simp only [Act.put, List.setIfInBounds_toArray, List.set_cons_zero, List.set_cons_succ, i64_w, i32_w]
                rfl
              refine pure_ (i := 10) (N := some 57) (v := ?_) (a' := ?_) #[true, true, true, true, true, true, true, true, true, true, true, false] rfl rfl (by kernel_rfl) (fun _ _ _ h => h) (Or.inl ⟨by rfl, ?_⟩) ?_ ?_
              rotate_left
              · intro w'
                go_simp
                with_reducible rfl
              rotate_left
              · simp only [Act.put, List.setIfInBounds_toArray, List.set_cons_zero, List.set_cons_succ, i64_w, i32_w]
                rfl
              refine last_ (i := 11) (N := none) #[true, true, true, true, true, true, true, true, true, true, true, true] rfl rfl (by kernel_rfl) (by decide) (fun K hK => ?_)
              refine skip_ (w1 := ?_) (by rfl) rfl ?_ ?_
              rotate_left
              · go_simp
                rfl
              refine hK.out _ _ ?_
              clear hK K
              refine done_ (by kernel_rfl) ?_
              -- END P16
              clear q0 q1 hq8 hf8 hw8
              go_wp2_with fail
              go_roundw
              case rel =>
                have hd := pw_below_drewN (Below.refl (wr.setCell ⟨w.heap.size, 0, none⟩ (.int .u64 (nx : Int))).heap.size (wr.setCell ⟨w.heap.size, 0, none⟩ (.int .u64 (nx : Int)))) 1
                have h1 := HQ.out.1.setNew (i := 0) HF.out.2.2 (Nat.le_refl _) (.int .u64 (nx : Int))
                have h2 := HQ.out.2.1.set_ (i := 0) HQ.out.2.2.1 (.int .u64 (nx : Int))
                exact .inr ⟨rfl, ⟨h1.trans (St.of_below h2.size hd), h2.below hd, heap_setCell_same wr w.heap.size 0 _ 23 (.int .u64 (nx : Int)) HQ.out.2.2.1⟩⟩
              case measure => decide
            · go_wp2_with fail
              go_roundw
              case rel => exact ⟨k + 1, by first | rfl | exact congrArg (Value.int .i64) w3, ⟨HLT.out, HQ.out.1, HQ.out.2.1, by rw [← HNX.out]; exact HQ.out.2.2⟩⟩
              case measure => first | exact msr16 k HLT.out | (rw [w3]; exact msr16 k HLT.out)
        · obtain rfl : k = 16 := by have := HJ.out.1; omega
          have t1 : decide (((16 : Nat) : Int) < 16) = false := by decide
          have hrow := HJ.out.2.2.2
          rw [show pickF f iw 16 = f iw from if_pos hi] at hrow
          have HFin := Aside0.mk (num_of_blk (c := 1) hrow (W64_one (HF.out.1 iw)) (by simp) (by simp))
          clear hrow
          go_wp2_with fail
          go_ret
          exact ⟨_, _, rfl, HFin.out, HJ.out.2.1, HJ.out.2.2.1⟩
end Go.Proofs.YtjpibgehhgaopaaGreat.Top
/- power's windows: four bits at a time, the highest ahead, of one word. -/
namespace Go.Proofs.YtjpibgehhgaopaaGreat.Top
open Go.RowKit Go.Shelf Go.Proofs.YtjpibgehhgaopaaGreatW.PrintWords Go.Proofs.YtjpibgehhgaopaaGreatW.PrintLast Go.Proofs.YtjpibgehhgaopaaGreat.PTopGenerated Go.Proofs.YtjpibgehhgaopaaGreat.Rf
attribute [local go_sem] Oper.semAt_some
set_option linter.unusedVariables false
set_option linter.unusedSimpArgs false

/-- The window number k of a word. -/
def winF (E k : Nat) : Nat := E / 2 ^ (60 - 4 * k) % 16
theorem win_bits (E s : Nat) (hE : E < 18446744073709551616) : Go.bits .and .u64 ((E : Int) / 2 ^ s) 15 = ((E / 2 ^ s % 16 : Nat) : Int) := by
  have e := bits_and_u64_nat (E / 2 ^ s) 15 (Nat.lt_of_le_of_lt (Nat.div_le_self _ _) hE) (by omega)
  have e1 : E / 2 ^ s &&& 15 = E / 2 ^ s % 16 := Nat.and_two_pow_sub_one_eq_mod _ 4
  rw [e1] at e
  have e2 : ((E / 2 ^ s : Nat) : Int) = (E : Int) / 2 ^ s := by simp
  rw [e2] at e
  exact e
theorem msr_win (j : Nat) : (intOf (.int .i64 ((4 * j : Nat) - 4 : Int)) + 4).toNat < (intOf (.int .i64 ((4 * (j + 1) : Nat) - 4 : Int)) + 4).toNat := by
  show (((4 * j : Nat) : Int) - 4 + 4).toNat < (((4 * (j + 1) : Nat) : Int) - 4 + 4).toNat
  omega
set_option maxRecDepth 100000 in
theorem windowsN (A : Option Addr) (n c : Nat) (w : World) : Calls Tryz.prog 209 #[.slice A n c] w fun x w' => x = .returned (.func (.func 234) #[] #[.pointer (some ⟨w.heap.size, 0, none⟩)]) ∧ w' = w.alloc (.cells #[.slice A n c] 26) := by
  go_enter Tryz.func209, Tryz.ntmps209
  go_wp2_with fail
  go_ret
  exact ⟨rfl, rfl⟩
set_option maxHeartbeats 1000000 in
set_option maxRecDepth 100000 in
/-- The iterator of a word's windows. -/
theorem win_in (n l bx : Nat) (A : Option Addr) (c E : Nat) (J : Nat → World → Prop)
    (h0 : ∀ k W, J k W → W.cell? ⟨bx, 0, none⟩ = some (.slice A 1 c) ∧ Num W A c [E])
    (hY : ∀ k W m, k < 16 → J k W → YieldAt Fence.wide m Tryz.prog l #[.int .u64 ((winF E k : Nat) : Int)] W fun e W' => e = .returned (.bool true) ∧ J (k + 1) W')
    (W : World) (hW : J 0 W) :
    CallsIn Fence.wide n Tryz.prog 234 #[.func (.yield l) #[] #[], .pointer (some ⟨bx, 0, none⟩)] W fun e W' => (∃ v, e = .returned v) ∧ J 16 W' := by
  have HJ := Aside0.mk (And.intro h0 hY)
  have H0 := Aside0.mk hW
  obtain ⟨g0, hn0⟩ := h0 _ _ hW
  have HE := Aside0.mk (hn0.w64 E (by simp))
  clear h0 hY hW hn0
  refine callsIn_of_wp Tryz.func234 rfl trivial ?_ rfl
  simp only [Tryz.ntmps234, List.size_toArray, List.length_cons, List.length_nil, Nat.reduceAdd, Nat.reduceSub, Array.replicate_succ, Array.replicate_zero, List.push_toArray, List.append_toArray, List.nil_append, List.cons_append]
  gi_wp2_with (fail)
  gi_loopw [3] (fun v3 wr => (v3 = .int .i64 0 ∧ Aside0 (J 0 wr)) ∨ (v3 = .int .i64 (-1) ∧ Aside0 (J 16 wr))) (fun v3 _ => (intOf v3 + 1).toNat)
  case atStart => exact .inl ⟨rfl, H0⟩
  case round =>
    rcases hrel with ⟨rfl, HI⟩ | ⟨rfl, HI⟩
    · clear g0
      gi_wp2_with (fail)
      gi_loopw [4] (fun v4 wr => ∃ j : Nat, v4 = .int .i64 ((4 * j : Nat) - 4 : Int) ∧ Aside0 (j ≤ 16 ∧ J (16 - j) wr)) (fun v4 _ => (intOf v4 + 4).toNat)
      case atStart => exact ⟨16, rfl, ⟨Nat.le_refl _, HI.out⟩⟩
      case round =>
        obtain ⟨j, rfl, HK⟩ := hrel
        rcases j with _ | j
        · have t2 : decide ((((4 * 0 : Nat) : Nat) : Int) - 4 ≥ 0) = false := by decide
          gi_wp2_with (fail)
          exact ⟨.inr ⟨rfl, ⟨HK.out.2⟩⟩, by decide⟩
        · have ej : ((4 * (j + 1) : Nat) : Int) - 4 = ((4 * j : Nat) : Int) := by omega
          obtain ⟨s, hs⟩ : ∃ s, s = 4 * j := ⟨_, rfl⟩
          rw [ej]
          have hj : j ≤ 15 := by have := HK.out.1; omega
          have t2 : decide ((s : Int) ≥ 0) = true := by rw [decide_eq_true_eq]; omega
          have t3 : decide ((s : Int) < 0) = false := by rw [decide_eq_false_iff_not]; omega
          have w9 : wrap64 ((s : Int) - 4) = (s : Int) - 4 := wrap64_id (by omega) (by omega)
          obtain ⟨g1, hn1⟩ := HJ.out.1 _ _ HK.out.2
          obtain ⟨ad, rfl, hc⟩ := hn1.oneK
          have hc1 := hc _ (Kp.refl _)
          have hmin : min s 64 = s := by omega
          have hb := win_bits E s HE.out
          obtain ⟨fn, tmps, assign, body, hy, hRd⟩ := HJ.out.2 _ wr (n - 1) (show 16 - (j + 1) < 16 by omega) HK.out.2
          rw [show winF E (16 - (j + 1)) = E / 2 ^ s % 16 by unfold winF; rw [hs, show 60 - 4 * (16 - (j + 1)) = 4 * j by omega]] at hy
          rw [show 16 - (j + 1) + 1 = 16 - j by omega] at hRd
          have HS := Aside0.mk hs
          rw [← hs]
          generalize E / 2 ^ s % 16 = x at *
          clear hn1 hc hs ej
          gi_wp2_with (fail)
          refine ⟨(fun h => by cases h), ?_⟩
          refine hRd.mono ?_
          rintro e W3 ⟨rfl, hJ3⟩
          have HJ3 := Aside0.mk hJ3
          clear hJ3
          gi_wp2_with (fail)
          refine ⟨⟨j, ?_, ⟨by omega, HJ3.out⟩⟩, ?_⟩
          · rw [← HS.out]
          · have h := msr_win j
            rw [← HS.out] at h
            simp only [intOf] at h ⊢
            have := HS.out
            omega
    · gi_wp2_with (fail)
      go_end0
      exact ⟨⟨_, rfl⟩, HI.out⟩
end Go.Proofs.YtjpibgehhgaopaaGreat.Top
