/- pad's Find and Equal with a trace: what is written down. -/
import Derived.Test.YtcjphioimmgbfaaPdI
import Derived.Test.YtcjphioimmgbfaaTrSame
namespace Go.Proofs.Ytcjphioimmgbfaa.Tra
open Go.RowKit Go.Proofs.YtcjphioimmgbfaaW.PrintWords Go.Proofs.YtcjphioimmgbfaaW.PrintLast Go.Proofs.YtcjphioimmgbfaaW.PrintMore Go.Proofs.Ytcjphioimmgbfaa.PTraceActs
set_option linter.unusedVariables false
set_option linter.unusedSimpArgs false

theorem PutO.only {w w1 : World} {B : Nat} {t : Option Nat} {v : Value} {l : List S24} (h : PutO w w1 B t v l) : OnlyT w w1 t v.ownBlock := by
  obtain ⟨_, _, h2, _⟩ := h
  exact h2
set_option maxHeartbeats 1000000 in
set_option maxRecDepth 100000 in
theorem findT (B tb : Nat) (v : Value) (l : List S24) (A : Option Addr) (cp : Nat) (b : List Int) (c f m : Int) (w : World) (hT : TrO w B (some tb) v l) (hll : l.length ≤ 1000) (hr : ∀ w', OnlyT w w' (some tb) v.ownBlock → ReadsInt w' .u8 A b.length b) (hb : ∀ i, Byte (rd b i)) (hc : Byte c) (hl : b.length ≤ 1200) (hm : (if f < 0 then 0 else f) = m) (hm0 : U64 m) :
    Calls Try.prog 28 #[ptrV (some tb), .slice A b.length cp, .int .u8 c, .int .i64 f] w fun e w' => e = .returned (.tuple #[.int .i64 ((fnd b c m b.length).1 : Nat), .int .u64 (b2i (fnd b c m b.length).2)]) ∧ PutO w w' B (some tb) v (l ++ [⟨1, (b.length : Int), 0⟩]) := by
  have HR := Aside0.mk hr
  have HBy := Aside0.mk hb
  have HL := Aside0.mk hl
  have HM := Aside0.mk hm0
  have HCB := Aside0.mk hc
  have hc1 : IntKind.u64.wrap c = c := by rw [IntKind.wrap_u64]; have := hc.1; have := hc.2; omega
  have hc2 : c % 18446744073709551616 = c := by have := hc.1; have := hc.2; omega
  have hm1 : IntKind.u64.wrap m = m := by rw [IntKind.wrap_u64]; have := hm0.1; have := hm0.2; omega
  have hm2 : m % 18446744073709551616 = m := by have := hm0.1; have := hm0.2; omega
  have hlw : IntKind.u64.wrap (b.length : Int) = (b.length : Int) := by rw [IntKind.wrap_u64]; omega
  have HT := Aside0.mk (And.intro hT hll)
  clear hr hb hl hm0 hc hT hll
  go_enter Try.func28, Try.ntmps28
  go_wp2_with fail
  refine (spanO B (some tb) v l (b.length : Int) _ HT.out.1 (by have := HT.out.2; omega)).mono ?_
  rintro e w1 ⟨rfl, hb1⟩
  have HB1 := Aside0.mk hb1
  clear hb1
  obtain ⟨wo, rfl⟩ : ∃ wo : World, wo = w1 := ⟨_, rfl⟩
  go_wp2_with fail
  go_loopw [10, 11, 23] (fun v10 v11 v23 wr => ∃ i : Nat, v10 = .int .u64 (((fnd b c m i).1 : Nat) : Int) ∧ v11 = .int .u64 (b2i (fnd b c m i).2) ∧ v23 = .int .i64 i ∧ Aside0 (i ≤ b.length) ∧ Aside0 (PutO w wr B (some tb) v (l ++ [⟨1, (b.length : Int), 0⟩]))) (fun _ _ v23 _ => b.length - (intOf v23).toNat)
  case atStart => exact ⟨0, by first | rfl | (rw [hlw]; rfl), rfl, rfl, ⟨by omega⟩, HB1⟩
  case round =>
    obtain ⟨i, rfl, rfl, rfl, HI, HB⟩ := hrel
    have hi := HI.out
    have hle := fnd_le b c m i hi
    by_cases hlt : i < b.length
    · have HLT := Aside0.mk hlt
      have hlt' : decide ((i : Int) < (b.length : Int)) = true := by simp; omega
      have hlt2 : decide (i < b.length) = true := by simp; omega
      obtain ⟨ad, e1, hc0⟩ := (HR.out _ HB.out.only).at_ (i : Int) (by omega) (by omega)
      subst e1
      simp only [Int.toNat_natCast] at hc0
      have HX := Aside0.mk (HBy.out (i : Int))
      obtain ⟨x, hx⟩ : ∃ x, x = rd b (i : Int) := ⟨_, rfl⟩
      rw [← hx] at hc0 HX
      have hx1 : IntKind.u64.wrap x = x := by rw [IntKind.wrap_u64]; have := HX.out.1; have := HX.out.2; omega
      have hx2 : x % 18446744073709551616 = x := by have := HX.out.1; have := HX.out.2; omega
      have HXE := Aside0.mk hx
      clear hx
      obtain ⟨s, hs⟩ : ∃ s, s = fnd b c m i := ⟨_, rfl⟩
      rw [← hs] at hle ⊢
      obtain ⟨at_, fd⟩ := s
      have HSE := Aside0.mk hs
      clear hs
      have hU1 : U64 (i : Int) := ⟨by omega, by have := HL.out; omega⟩
      have hU2 : U64 (at_ : Int) := ⟨by omega, by have := HL.out; simp only at hle; omega⟩
      have hi1 : IntKind.u64.wrap (i : Int) = (i : Int) := by rw [IntKind.wrap_u64]; have := hU1.1; have := hU1.2; omega
      have hw3 : wrap64 ((i : Int) + 1) = (i : Int) + 1 := by have := HL.out; unfold wrap64; omega
      have hand := andNot_b2i
      have hor := or_b2i
      go_wp2_with fail
      refine (equal_any x c _ (byte_u HX.out) (byte_u HCB.out)).mono ?_
      rintro e w2 ⟨rfl, rfl⟩
      obtain ⟨p0, hp0⟩ : ∃ p, p = decide (x = c) := ⟨_, rfl⟩
      rw [← hp0]
      have HP0 := Aside0.mk hp0
      clear hp0
      go_wp2_with fail
      refine (less_any (i : Int) m _ hU1 HM.out).mono ?_
      rintro e w2 ⟨rfl, rfl⟩
      obtain ⟨p1, hp1⟩ : ∃ p, p = decide ((i : Int) < m) := ⟨_, rfl⟩
      rw [← hp1]
      have HP1 := Aside0.mk hp1
      clear hp1
      go_wp2_with fail
      refine (select_any (p0 && !fd && !p1) (i : Int) (at_ : Int) _ hU1 hU2).mono ?_
      rintro e w2 ⟨rfl, rfl⟩
      go_wp2_with fail
      go_roundw
      case rel =>
        have hh : hit b c m i fd = (p0 && !fd && !p1) := by rw [HP0.out, HP1.out, HXE.out]; rfl
        have hf : fnd b c m (i + 1) = (if (p0 && !fd && !p1) then i else at_, fd || (p0 && !fd && !p1)) := by
          show ((if hit b c m i (fnd b c m i).2 then i else (fnd b c m i).1), (fnd b c m i).2 || hit b c m i (fnd b c m i).2) = _
          rw [← HSE.out]
          show ((if hit b c m i fd then i else at_), fd || hit b c m i fd) = _
          rw [hh]
        refine ⟨i + 1, ?_, ?_, congrArg (Value.int .i64) (hw3.trans (by omega)), ⟨HLT.out⟩, HB⟩
        · rw [hf]
          unfold selI
          generalize (p0 && !fd && !p1) = q
          cases q <;> rfl
        · rw [hf]
      case measure => rw [hw3]; exact msr1 i b.length HLT.out
    · obtain rfl : i = b.length := by omega
      have hlt' : decide ((b.length : Int) < (b.length : Int)) = false := by simp
      obtain ⟨s, hs⟩ : ∃ s, s = fnd b c m b.length := ⟨_, rfl⟩
      rw [← hs] at hle ⊢
      obtain ⟨at_, fd⟩ := s
      have HSE := Aside0.mk hs
      clear hs
      have hw1 : wrap64 (at_ : Int) = (at_ : Int) := by simp only at hle; have := HL.out; unfold wrap64; omega
      have hw2 : IntKind.i64.wrap (at_ : Int) = (at_ : Int) := (i64_w _).trans hw1
      go_wp2_with fail
      refine bodyPost_ret (results_tmp2 rfl _ _ _) rfl ?_
      refine ⟨?_, HB.out⟩
      rw [← HSE.out]
      simp

set_option maxHeartbeats 1000000 in
set_option maxRecDepth 100000 in
theorem equalT (B tb : Nat) (v : Value) (l : List S24) (A A' : Option Addr) (ca cb : Nat) (a b : List Int) (n : Nat) (z : Int) (w : World) (hT : TrO w B (some tb) v l) (hll : l.length ≤ 1000) (ha : ∀ w', OnlyT w w' (some tb) v.ownBlock → ReadsInt w' .u8 A a.length a) (hb : ∀ w', OnlyT w w' (some tb) v.ownBlock → ReadsInt w' .u8 A' b.length b) (hn : n = min a.length b.length)
    (hz : IntKind.u64.wrap (Go.bits .xor .i64 (a.length : Int) (b.length : Int)) = z) (hzu : U64 z) (hl : a.length ≤ 1200) :
    Calls Try.prog 29 #[ptrV (some tb), .slice A a.length ca, .slice A' b.length cb] w fun e w' => e = .returned (.int .u64 (b2i (decide (part_ a b z n = 0)))) ∧ PutO w w' B (some tb) v (l ++ [⟨1, (max a.length b.length : Nat), 0⟩]) := by
  have HA := Aside0.mk ha
  have HB := Aside0.mk hb
  have HT := Aside0.mk (And.intro hT hll)
  have HL := Aside0.mk hl
  have HN := Aside0.mk (show n ≤ a.length ∧ n ≤ b.length from by omega)
  have n1 : (if (b.length : Int) < (a.length : Int) then (b.length : Int) else (a.length : Int)) = (n : Int) := by split <;> omega
  have n2 : (if b.length < a.length then (b.length : Int) else (a.length : Int)) = (n : Int) := by split <;> omega
  obtain ⟨M, hM⟩ : ∃ M, M = max a.length b.length := ⟨_, rfl⟩
  have m1 : (if (a.length : Int) < (b.length : Int) then (b.length : Int) else (a.length : Int)) = (M : Int) := by split <;> omega
  have m2 : (if a.length < b.length then (b.length : Int) else (a.length : Int)) = (M : Int) := by split <;> omega
  rw [← hM]
  clear hn hM
  have HZ := Aside0.mk hzu
  clear ha hb hl hzu hT hll
  go_enter Try.func29, Try.ntmps29
  go_wp2_with fail
  refine (spanO B (some tb) v l _ _ HT.out.1 (by have := HT.out.2; omega)).mono ?_
  rintro e w1 ⟨rfl, hb1⟩
  have HB1 := Aside0.mk hb1
  clear hb1
  obtain ⟨wo, rfl⟩ : ∃ wo : World, wo = w1 := ⟨_, rfl⟩
  go_wp2_with fail
  go_loopw [8, 29] (fun v8 v29 wr => ∃ i : Nat, v8 = .int .u64 (part_ a b z i) ∧ v29 = .int .i64 i ∧ Aside0 (i ≤ n) ∧ Aside0 (PutO w wr B (some tb) v (l ++ [⟨1, (M : Int), 0⟩]))) (fun _ v29 _ => n - (intOf v29).toNat)
  case atStart => exact ⟨0, rfl, rfl, ⟨by omega⟩, HB1⟩
  case round =>
    obtain ⟨i, rfl, rfl, HI, HBw⟩ := hrel
    have hi := HI.out
    by_cases hlt : i < n
    · have HLT := Aside0.mk hlt
      have hlt' : decide ((i : Int) < (n : Int)) = true := by simp; omega
      have hlt2 : decide (i < n) = true := by simp; omega
      have la : (i : Int) < (a.length : Int) := by have := HN.out; omega
      have lb : (i : Int) < (b.length : Int) := by have := HN.out; omega
      obtain ⟨ad, e1, hc0⟩ := (HA.out _ HBw.out.only).at_ (i : Int) (by omega) la
      obtain ⟨bd, e2, hc1⟩ := (HB.out _ HBw.out.only).at_ (i : Int) (by omega) lb
      subst e1
      subst e2
      simp only [Int.toNat_natCast] at hc0 hc1
      obtain ⟨x, hx⟩ : ∃ x, x = rd a (i : Int) := ⟨_, rfl⟩
      obtain ⟨y, hy⟩ : ∃ y, y = rd b (i : Int) := ⟨_, rfl⟩
      obtain ⟨q, hq⟩ : ∃ q, q = part_ a b z i := ⟨_, rfl⟩
      rw [← hx] at hc0
      rw [← hy] at hc1
      rw [← hq]
      have HXY := Aside0.mk (And.intro hx (And.intro hy hq))
      clear hx hy hq
      have hw3 : wrap64 ((i : Int) + 1) = (i : Int) + 1 := by have := HL.out; unfold wrap64; omega
      go_wp2_with fail
      -- BEGIN E7
      refine start_ (n := 13) (S := fun w' => w'.cell? (ad.add i) = some (.int .u8 x) ∧ w'.cell? (bd.add i) = some (.int .u8 y)) (ds := []) #[false, false, false, false, false, false, false, false, false, false, false, false, false] (by kernel_rfl) rfl rfl ⟨hc0, hc1⟩ (fun hHeld => ?_)
      refine pure_ (i := 0) (N := some 32) (v := ?_) (a' := ?_) #[true, false, false, false, false, false, false, false, false, false, false, false, false] rfl rfl (by kernel_rfl) (fun _ _ _ h => h) (Or.inl ⟨by rfl, ?_⟩) ?_ ?_
      rotate_left
      · intro w'
        go_simp
        with_reducible rfl
      rotate_left
      · simp only [Act.put, List.setIfInBounds_toArray, List.set_cons_zero, List.set_cons_succ, i64_w, i32_w]
        rfl
      refine pure_ (i := 1) (N := some 33) (v := ?_) (a' := ?_) #[true, true, false, false, false, false, false, false, false, false, false, false, false] rfl rfl (by kernel_rfl) (fun _ _ _ h => h) (Or.inl ⟨by rfl, ?_⟩) ?_ ?_
      rotate_left
      · intro w'
        go_simp
        with_reducible rfl
      rotate_left
      · simp only [Act.put, List.setIfInBounds_toArray, List.set_cons_zero, List.set_cons_succ, i64_w, i32_w]
        rfl
      refine pure_ (i := 2) (N := some 34) (v := ?_) (a' := ?_) #[true, true, true, false, false, false, false, false, false, false, false, false, false] rfl rfl (by kernel_rfl) (fun _ _ _ h => h) (Or.inl ⟨by rfl, ?_⟩) ?_ ?_
      rotate_left
      · intro w'
        go_simp
        with_reducible rfl
      rotate_left
      · simp only [Act.put, List.setIfInBounds_toArray, List.set_cons_zero, List.set_cons_succ, i64_w, i32_w]
        rfl
      refine pure_ (i := 3) (N := some 35) (v := ?_) (a' := ?_) #[true, true, true, true, false, false, false, false, false, false, false, false, false] rfl rfl (by kernel_rfl) (fun _ _ _ h => h) (Or.inl ⟨by rfl, ?_⟩) ?_ ?_
      rotate_left
      · intro w'
        go_simp
        with_reducible rfl
      rotate_left
      · simp only [Act.put, List.setIfInBounds_toArray, List.set_cons_zero, List.set_cons_succ, i64_w, i32_w]
        rfl
      refine pure_ (i := 5) (N := some 37) (v := ?_) (a' := ?_) #[true, true, true, true, false, true, false, false, false, false, false, false, false] rfl rfl (by kernel_rfl) (fun _ _ _ h => h) (Or.inl ⟨by rfl, ?_⟩) ?_ ?_
      rotate_left
      · intro w'
        go_simp
        with_reducible rfl
      rotate_left
      · simp only [Act.put, List.setIfInBounds_toArray, List.set_cons_zero, List.set_cons_succ, i64_w, i32_w]
        rfl
      refine pure_ (i := 6) (N := some 38) (v := ?_) (a' := ?_) #[true, true, true, true, false, true, true, false, false, false, false, false, false] rfl rfl (by kernel_rfl) (fun _ _ _ h => h) (Or.inl ⟨by rfl, ?_⟩) ?_ ?_
      rotate_left
      · intro w'
        go_simp
        with_reducible rfl
      rotate_left
      · simp only [Act.put, List.setIfInBounds_toArray, List.set_cons_zero, List.set_cons_succ, i64_w, i32_w]
        rfl
      refine pure_ (i := 7) (N := some 39) (v := ?_) (a' := ?_) #[true, true, true, true, false, true, true, true, false, false, false, false, false] rfl rfl (by kernel_rfl) (fun _ _ _ h => h) (Or.inl ⟨by rfl, ?_⟩) ?_ ?_
      rotate_left
      · intro w'
        go_simp
        with_reducible rfl
      rotate_left
      · simp only [Act.put, List.setIfInBounds_toArray, List.set_cons_zero, List.set_cons_succ, i64_w, i32_w]
        rfl
      refine take_ (i := 4) (N := some 36) (v := ?_) (a' := ?_) #[true, true, true, true, true, true, true, true, false, false, false, false, false] rfl rfl (by kernel_rfl) (fun _ _ _ h => h) (Or.inl ⟨by rfl, ?_⟩) hHeld ?_ ?_
      rotate_left
      · rintro w' ⟨s0, s1⟩
        go_simp
        with_reducible rfl
      rotate_left
      · simp only [Act.put, List.setIfInBounds_toArray, List.set_cons_zero, List.set_cons_succ, i64_w, i32_w]
        rfl
      refine take_ (i := 8) (N := some 40) (v := ?_) (a' := ?_) #[true, true, true, true, true, true, true, true, true, false, false, false, false] rfl rfl (by kernel_rfl) (fun _ _ _ h => h) (Or.inl ⟨by rfl, ?_⟩) hHeld ?_ ?_
      rotate_left
      · rintro w' ⟨s0, s1⟩
        go_simp
        with_reducible rfl
      rotate_left
      · simp only [Act.put, List.setIfInBounds_toArray, List.set_cons_zero, List.set_cons_succ, i64_w, i32_w]
        rfl
      refine pure_ (i := 9) (N := some 41) (v := ?_) (a' := ?_) #[true, true, true, true, true, true, true, true, true, true, false, false, false] rfl rfl (by kernel_rfl) (fun _ _ _ h => h) (Or.inl ⟨by rfl, ?_⟩) ?_ ?_
      rotate_left
      · intro w'
        go_simp
        with_reducible rfl
      rotate_left
      · simp only [Act.put, List.setIfInBounds_toArray, List.set_cons_zero, List.set_cons_succ, i64_w, i32_w]
        rfl
      refine pure_ (i := 10) (N := some 42) (v := ?_) (a' := ?_) #[true, true, true, true, true, true, true, true, true, true, true, false, false] rfl rfl (by kernel_rfl) (fun _ _ _ h => h) (Or.inl ⟨by rfl, ?_⟩) ?_ ?_
      rotate_left
      · intro w'
        go_simp
        with_reducible rfl
      rotate_left
      · simp only [Act.put, List.setIfInBounds_toArray, List.set_cons_zero, List.set_cons_succ, i64_w, i32_w]
        rfl
      refine pure_ (i := 11) (N := some 43) (v := ?_) (a' := ?_) #[true, true, true, true, true, true, true, true, true, true, true, true, false] rfl rfl (by kernel_rfl) (fun _ _ _ h => h) (Or.inl ⟨by rfl, ?_⟩) ?_ ?_
      rotate_left
      · intro w'
        go_simp
        with_reducible rfl
      rotate_left
      · simp only [Act.put, List.setIfInBounds_toArray, List.set_cons_zero, List.set_cons_succ, i64_w, i32_w]
        rfl
      refine pure_ (i := 12) (N := some 8) (v := ?_) (a' := ?_) #[true, true, true, true, true, true, true, true, true, true, true, true, true] rfl rfl (by kernel_rfl) (fun _ _ _ h => h) (Or.inl ⟨by rfl, ?_⟩) ?_ ?_
      rotate_left
      · intro w'
        go_simp
        with_reducible rfl
      rotate_left
      · simp only [Act.put, List.setIfInBounds_toArray, List.set_cons_zero, List.set_cons_succ, i64_w, i32_w]
        rfl
      refine done_ (by kernel_rfl) ?_
      -- END E7
      go_wp2_with fail
      go_roundw
      case rel =>
        refine ⟨i + 1, ?_, congrArg (Value.int .i64) (hw3.trans (by omega)), ⟨HLT.out⟩, ⟨HBw.out.then_below (below_drew (Below.refl _ _))⟩⟩
        show _ = Value.int .u64 (Go.bits .or .u64 (part_ a b z i) (IntKind.u64.wrap (Go.bits .xor .u8 (rd a (i : Int)) (rd b (i : Int)))))
        rw [← HXY.out.1, ← HXY.out.2.1, ← HXY.out.2.2]
      case measure => rw [hw3]; exact msr1 i n HLT.out
    · obtain rfl : i = n := by omega
      have hlt' : decide ((i : Int) < (i : Int)) = false := by simp
      go_wp2_with fail
      refine (zero_any _ _ (part_u a b z HZ.out i)).mono ?_
      rintro e w2 ⟨rfl, rfl⟩
      go_wp2_with fail
      go_ret
      exact ⟨rfl, HBw.out⟩
end Go.Proofs.Ytcjphioimmgbfaa.Tra
