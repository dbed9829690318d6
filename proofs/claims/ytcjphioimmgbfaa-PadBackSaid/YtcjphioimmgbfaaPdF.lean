/- The reference's Unpad comes to what Decode comes to. -/
import Derived.Test.YtcjphioimmgbfaaPdE
namespace Go.Proofs.Ytcjphioimmgbfaa.Tra
open Go.RowKit Go.Proofs.YtcjphioimmgbfaaW.PrintWords Go.Proofs.YtcjphioimmgbfaaW.PrintLast Go.Proofs.YtcjphioimmgbfaaW.PrintMore Go.Proofs.Ytcjphioimmgbfaa.PTraceActs
set_option linter.unusedVariables false
set_option linter.unusedSimpArgs false

theorem fnd_none (b : List Int) : ∀ i : Nat, (∀ j : Nat, 2 ≤ j → j < i → rd b (j : Int) ≠ 0) → fnd b 0 2 i = (b.length, false)
  | 0, _ => rfl
  | i + 1, h => by
    have ih := fnd_none b i (fun j h1 h2 => h j h1 (by omega))
    have hh : hit b 0 2 i false = false := by
      unfold hit
      by_cases h2 : 2 ≤ i
      · have := h i h2 (by omega)
        simp [this]
      · have : (i : Int) < 2 := by omega
        simp [this]
    show ((if hit b 0 2 i (fnd b 0 2 i).2 then i else (fnd b 0 2 i).1), (fnd b 0 2 i).2 || hit b 0 2 i (fnd b 0 2 i).2) = _
    rw [ih]
    show ((if hit b 0 2 i false then i else b.length), false || hit b 0 2 i false) = _
    rw [hh]
    rfl
theorem fnd_first (b : List Int) (i : Nat) (h2 : 2 ≤ i) (h0 : rd b (i : Int) = 0) (h : ∀ j, 2 ≤ j → j < i → rd b (j : Int) ≠ 0) : ∀ k, fnd b 0 2 (i + 1 + k) = (i, true)
  | 0 => by
    have ih := fnd_none b i h
    have hh : hit b 0 2 i false = true := by
      unfold hit
      have : ¬ (i : Int) < 2 := by omega
      simp [this, h0]
    show ((if hit b 0 2 i (fnd b 0 2 i).2 then i else (fnd b 0 2 i).1), (fnd b 0 2 i).2 || hit b 0 2 i (fnd b 0 2 i).2) = _
    rw [ih]
    show ((if hit b 0 2 i false then i else b.length), false || hit b 0 2 i false) = _
    rw [hh]
    rfl
  | k + 1 => by
    have ih := fnd_first b i h2 h0 h k
    show ((if hit b 0 2 (i + 1 + k) (fnd b 0 2 (i + 1 + k)).2 then (i + 1 + k) else (fnd b 0 2 (i + 1 + k)).1), (fnd b 0 2 (i + 1 + k)).2 || hit b 0 2 (i + 1 + k) (fnd b 0 2 (i + 1 + k)).2) = _
    rw [ih]
    simp [hit]
theorem take_two (b : List Int) (h : 2 ≤ b.length) : b.take 2 = [0, 2] ↔ rd b 0 = 0 ∧ rd b 1 = 2 := by
  match b, h with
  | x :: y :: r, _ => simp [rd]
/-- A text that is refused at its first bytes. -/
theorem dec_head (b : List Int) (h : 2 ≤ b.length) (h2 : ¬ (rd b 0 = 0 ∧ rd b 1 = 2)) : decS b = ([], 230) := by
  unfold decS
  split
  · rfl
  · have : okD b = false := by
      unfold okD
      have h3 : ¬ b.take 2 = [0, 2] := fun e => h2 ((take_two b h).1 e)
      simp [h3]
    rw [this]
    rfl
theorem dec_none (b : List Int) (h : ∀ j, 2 ≤ j → j < b.length → rd b (j : Int) ≠ 0) : decS b = ([], 230) := by
  unfold decS
  split
  · rfl
  · have : okD b = false := by
      unfold okD
      rw [fnd_none b b.length h]
      rfl
    rw [this]
    rfl
theorem dec_first (b : List Int) (i : Nat) (hl : 11 ≤ b.length ∧ b.length ≤ 1024) (hi : i < b.length) (h2 : 2 ≤ i) (h0 : rd b (i : Int) = 0) (h : ∀ j, 2 ≤ j → j < i → rd b (j : Int) ≠ 0) (hh : rd b 0 = 0 ∧ rd b 1 = 2) :
    decS b = if i < 10 then ([], 230) else (b.drop (i + 1), 0) := by
  have hf := fnd_first b i h2 h0 h (b.length - (i + 1))
  rw [show i + 1 + (b.length - (i + 1)) = b.length by omega] at hf
  unfold decS
  rw [if_neg (by omega)]
  have ht := (take_two b (by omega)).2 hh
  have hok : okD b = !decide ((i : Int) < 10) := by
    unfold okD
    rw [hf, ht]
    simp
  rw [hok, hf]
  by_cases h10 : i < 10
  · have : (i : Int) < 10 := by omega
    simp [h10, this]
  · have : ¬ (i : Int) < 10 := by omega
    simp [h10, this]
set_option maxHeartbeats 1000000 in
set_option maxRecDepth 100000 in
theorem unpad_any (A : Option Addr) (c : Nat) (b : List Int) (w : World) (hr : ReadsInt w .u8 A b.length b) (hc : b.length ≤ c) (hm : b.length ≤ 1200) :
    Calls Try.prog 26 #[.slice A b.length c] w fun e w' => ∃ v, e = .returned (.tuple #[v, .int .i64 (decS b).2]) ∧ w'.ownsRow w.heap.size 5 1 v (decS b).1.length (nums .u8 (decS b).1) ∧ Below w.heap.size w w' := by
  have HR := Aside0.mk hr
  have HC := Aside0.mk hc
  have HMx := Aside0.mk hm
  clear hr hc hm
  by_cases hA : b.length < 11 ∨ 1024 < b.length
  · have HD := Aside0.mk (show decS b = ([], 230) from if_pos hA)
    rw [HD.out]
    by_cases h1 : 1024 < b.length
    · have d3 : decide ((b.length : Int) > 1024) = true := by simp; omega
      have d4 : decide (b.length > 1024) = true := by simp; omega
      clear hA
      go_enter Try.func26, Try.ntmps26
      go_wp2_with fail
      (try simp only [Exit.inBlock, Exit.then])
      refine bodyPost_ret (results_tmp2 rfl _ _ _) rfl ?_
      exact ⟨_, rfl, own_nil _ _ _ _, Below.refl _ _⟩
    · have d1 : decide ((b.length : Int) < 11) = true := by simp; omega
      have d2 : decide (b.length < 11) = true := by simp; omega
      have d3 : decide ((b.length : Int) > 1024) = false := by simp; omega
      have d4 : decide (b.length > 1024) = false := by simp; omega
      clear hA
      go_enter Try.func26, Try.ntmps26
      go_wp2_with fail
      (try simp only [Exit.inBlock, Exit.then])
      refine bodyPost_ret (results_tmp2 rfl _ _ _) rfl ?_
      exact ⟨_, rfl, own_nil _ _ _ _, Below.refl _ _⟩
  · have HL := Aside0.mk (show 11 ≤ b.length ∧ b.length ≤ 1024 from by omega)
    have d1 : decide ((b.length : Int) < 11) = false := by simp; omega
    have d2 : decide (b.length < 11) = false := by simp; omega
    have d3 : decide ((b.length : Int) > 1024) = false := by simp; omega
    have d4 : decide (b.length > 1024) = false := by simp; omega
    have l0 : (0 : Int) < (b.length : Int) := by omega
    have l1 : (1 : Int) < (b.length : Int) := by omega
    have l0n : 0 < b.length := by omega
    have l1n : 1 < b.length := by omega
    obtain ⟨ad, rfl, hcell⟩ := HR.out.2.2 (by omega)
    have HCE := Aside0.mk hcell
    obtain ⟨x0, hx0⟩ : ∃ x, x = rd b 0 := ⟨_, rfl⟩
    obtain ⟨x1, hx1⟩ : ∃ x, x = rd b 1 := ⟨_, rfl⟩
    have c0 : w.cell? (ad.add 0) = some (.int .u8 x0) := by rw [hcell 0 (by omega), hx0]; rfl
    have c0' : w.cell? ad = some (.int .u8 x0) := by rw [← c0]; unfold Addr.add; rfl
    have c1 : w.cell? (ad.add 1) = some (.int .u8 x1) := by rw [hcell 1 (by omega), hx1]; rfl
    have c1' : w.cell? ⟨ad.block, ad.off + 1, none⟩ = some (.int .u8 x1) := by rw [← c1]; unfold Addr.add; rfl
    have HX := Aside0.mk (And.intro hx0 hx1)
    clear hcell hx0 hx1 hA
    by_cases h0 : x0 = 0
    · have t0 : (x0 != 0) = false := by simp [h0]
      by_cases h1 : x1 = 2
      · have t1 : (x1 != 2) = false := by simp [h1]
        have HH := Aside0.mk (show rd b 0 = 0 ∧ rd b 1 = 2 from ⟨HX.out.1 ▸ h0, HX.out.2 ▸ h1⟩)
        have HB0 := Aside0.mk (Below.refl w.heap.size w)
        clear h0 h1
        go_enter Try.func26, Try.ntmps26
        go_wp2_with fail
        go_loopw [4] (fun v4 wr => ∃ i : Nat, v4 = .int .i64 i ∧ Aside0 (2 ≤ i ∧ i ≤ b.length ∧ ∀ j, 2 ≤ j → j < i → rd b (j : Int) ≠ 0) ∧ Aside0 (Below w.heap.size w wr)) (fun v4 _ => b.length - (intOf v4).toNat)
        case atStart => exact ⟨2, rfl, ⟨by omega, by omega, fun j h1 h2 => by omega⟩, HB0⟩
        case round =>
          obtain ⟨i, rfl, HI, HB⟩ := hrel
          by_cases hlt : i < b.length
          · have HLT := Aside0.mk hlt
            have hlt' : decide ((i : Int) < (b.length : Int)) = true := by simp; omega
            have hlt2 : decide (i < b.length) = true := by simp; omega
            obtain ⟨x, hx⟩ : ∃ x, x = rd b (i : Int) := ⟨_, rfl⟩
            have hci : wr.cell? (ad.add i) = some (.int .u8 x) := by rw [hx]; exact pw_cell_below HB.out (HCE.out i hlt)
            have HXE := Aside0.mk hx
            have hw3 : wrap64 ((i : Int) + 1) = (i : Int) + 1 := by have := HL.out; unfold wrap64; omega
            clear hx c0 c0' c1 c1'
            by_cases hz : x = 0
            · have tz : (x == 0) = true := by simp [hz]
              have HD := Aside0.mk (dec_first b i HL.out HLT.out HI.out.1 (HXE.out ▸ hz) HI.out.2.2 HH.out)
              by_cases h10 : i < 10
              · have e10 : decide ((i : Int) < 10) = true := by simp; omega
                have e10' : decide (i < 10) = true := by simp; omega
                have HD2 := Aside0.mk (show decS b = ([], 230) from by rw [HD.out, if_pos h10])
                clear hz h10
                go_wp2_with fail
                (try simp only [Exit.inBlock, Exit.then])
                refine bodyPost_ret (results_tmp2 rfl _ _ _) rfl ?_
                rw [HD2.out]
                exact ⟨_, rfl, own_nil _ _ _ _, HB.out⟩
              · have e10 : decide ((i : Int) < 10) = false := by simp; omega
                have e10' : decide (i < 10) = false := by simp; omega
                have HD2 := Aside0.mk (show decS b = (b.drop (i + 1), 0) from by rw [HD.out, if_neg h10])
                clear hz h10
                have HDR0 := Aside0.mk (HR.out.drop_ (i + 1) HLT.out HC.out)
                by_cases hcj : c = i + 1
                · have HDR := Aside0.mk (show ReadsInt w .u8 (some ad) (b.length - (i + 1)) (b.drop (i + 1)) from by have h := HDR0.out; rwa [if_pos hcj] at h)
                  clear HDR0
                  go_wp2_with (at_builtin; refine print_append_row (w0 := w) w.heap.size rfl (.const (.slice none 0 0)) (.tmp 41) 42 5 .u8 1 rfl Try.underlying42 info5' (by decide) _ [] (b.drop (i + 1)) _ _ _ rfl rfl (own_nil _ _ _ _) (HDR.out.below HB.out) HB.out HB.out.size (by have := HL.out; simp; omega) ?_; intro v2 w2 hO2 hB2 hg_ hat_; clear hg_ hat_; have HO2 := Aside0.mk hO2; have HB2 := Aside0.mk hB2; clear hO2 hB2)
                  (try simp only [Exit.inBlock, Exit.then])
                  refine bodyPost_ret (results_tmp2 rfl _ _ _) rfl ?_
                  rw [HD2.out]
                  exact ⟨_, rfl, HO2.out, HB2.out⟩
                · have HDR := Aside0.mk (show ReadsInt w .u8 (some ⟨ad.block, ad.off + (i + 1), none⟩) (b.length - (i + 1)) (b.drop (i + 1)) from by have h := HDR0.out; rw [if_neg hcj] at h; exact h)
                  clear HDR0
                  go_wp2_with (at_builtin; refine print_append_row (w0 := w) w.heap.size rfl (.const (.slice none 0 0)) (.tmp 41) 42 5 .u8 1 rfl Try.underlying42 info5' (by decide) _ [] (b.drop (i + 1)) _ _ _ rfl rfl (own_nil _ _ _ _) (HDR.out.below HB.out) HB.out HB.out.size (by have := HL.out; simp; omega) ?_; intro v2 w2 hO2 hB2 hg_ hat_; clear hg_ hat_; have HO2 := Aside0.mk hO2; have HB2 := Aside0.mk hB2; clear hO2 hB2)
                  (try simp only [Exit.inBlock, Exit.then])
                  refine bodyPost_ret (results_tmp2 rfl _ _ _) rfl ?_
                  rw [HD2.out]
                  exact ⟨_, rfl, HO2.out, HB2.out⟩
            · have tz : (x == 0) = false := by simp [hz]
              have HZ := Aside0.mk hz
              clear hz
              go_wp2_with fail
              go_roundw
              case rel => exact ⟨i + 1, by first | rfl | exact congrArg (Value.int .i64) (hw3.trans (by omega)), ⟨by have := HI.out.1; omega, HLT.out, fun j h1 h2 => by
                rcases Nat.lt_succ_iff_lt_or_eq.1 h2 with h | rfl
                · exact HI.out.2.2 j h1 h
                · rw [← HXE.out]; exact HZ.out⟩, HB⟩
              case measure => first | (rw [hw3]; exact msr1 i b.length HLT.out) | exact msr1 i b.length HLT.out
          · obtain rfl : i = b.length := by have := HI.out.2.1; omega
            have hlt' : decide ((b.length : Int) < (b.length : Int)) = false := by simp
            have HD2 := Aside0.mk (dec_none b HI.out.2.2)
            go_wp2_with fail
            (try simp only [Exit.inBlock, Exit.then])
            refine bodyPost_ret (results_tmp2 rfl _ _ _) rfl ?_
            rw [HD2.out]
            exact ⟨_, rfl, own_nil _ _ _ _, HB.out⟩
      · have t1 : (x1 != 2) = true := by simp [h1]
        have HD2 := Aside0.mk (dec_head b (by omega) (fun h => h1 (HX.out.2 ▸ h.2)))
        clear h0 h1
        go_enter Try.func26, Try.ntmps26
        go_wp2_with fail
        (try simp only [Exit.inBlock, Exit.then])
        refine bodyPost_ret (results_tmp2 rfl _ _ _) rfl ?_
        rw [HD2.out]
        exact ⟨_, rfl, own_nil _ _ _ _, Below.refl _ _⟩
    · have t0 : (x0 != 0) = true := by simp [h0]
      have HD2 := Aside0.mk (dec_head b (by omega) (fun h => h0 (HX.out.1 ▸ h.1)))
      clear h0
      go_enter Try.func26, Try.ntmps26
      go_wp2_with fail
      (try simp only [Exit.inBlock, Exit.then])
      refine bodyPost_ret (results_tmp2 rfl _ _ _) rfl ?_
      rw [HD2.out]
      exact ⟨_, rfl, own_nil _ _ _ _, Below.refl _ _⟩
end Go.Proofs.Ytcjphioimmgbfaa.Tra
