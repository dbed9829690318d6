/- pad's Find and Equal without a trace. -/
import Derived.Test.YtcjphioimmgbfaaPdA
namespace Go.Proofs.Ytcjphioimmgbfaa.Tra
open Go.RowKit Go.Proofs.YtcjphioimmgbfaaW.PrintWords Go.Proofs.YtcjphioimmgbfaaW.PrintLast Go.Proofs.YtcjphioimmgbfaaW.PrintMore Go.Proofs.Ytcjphioimmgbfaa.PTraceActs
set_option linter.unusedVariables false
set_option linter.unusedSimpArgs false

theorem spanNil (n : Int) (w : World) : Calls Try.prog 18 #[.pointer none, .int .i64 n] w fun x w' => x = .returned (.tuple #[]) ∧ Below w.heap.size w w' :=
  (spanO 0 none (.slice none 0 0) [] n w rfl (by simp)).mono fun x w' ⟨hx, hp⟩ => ⟨hx, below_none hp⟩
theorem msr1 (j n : Nat) (h : j < n) : n - (intOf (.int .i64 ((j : Int) + 1))).toNat < n - (intOf (.int .i64 (j : Int))).toNat := by
  show n - ((j : Int) + 1).toNat < n - (j : Int).toNat
  have e1 : ((j : Int) + 1).toNat = j + 1 := by omega
  have e2 : (j : Int).toNat = j := by omega
  rw [e1, e2]
  omega
def Byte (x : Int) : Prop := 0 ≤ x ∧ x < 256
theorem byte_u {x : Int} (h : Byte x) : U64 x := ⟨h.1, by have := h.2; omega⟩
def hit (b : List Int) (c m : Int) (i : Nat) (fd : Bool) : Bool := decide (rd b (i : Int) = c) && !fd && !decide ((i : Int) < m)
/-- Where the first one stands, behind i looks. -/
def fnd (b : List Int) (c m : Int) : Nat → Nat × Bool
  | 0 => (b.length, false)
  | i + 1 => (if hit b c m i (fnd b c m i).2 then i else (fnd b c m i).1, (fnd b c m i).2 || hit b c m i (fnd b c m i).2)
theorem fnd_le (b : List Int) (c m : Int) : ∀ i, i ≤ b.length → (fnd b c m i).1 ≤ b.length
  | 0, _ => Nat.le_refl _
  | i + 1, h => by
    have ih := fnd_le b c m i (by omega)
    show (if _ then i else _) ≤ _
    split <;> omega
set_option maxHeartbeats 1000000 in
set_option maxRecDepth 100000 in
theorem findNil (A : Option Addr) (cp : Nat) (b : List Int) (c f m : Int) (w : World) (hr : ReadsInt w .u8 A b.length b) (hb : ∀ i, Byte (rd b i)) (hc : Byte c) (hl : b.length ≤ 1200) (hm : (if f < 0 then 0 else f) = m) (hm0 : U64 m) :
    Calls Try.prog 28 #[.pointer none, .slice A b.length cp, .int .u8 c, .int .i64 f] w fun e w' => e = .returned (.tuple #[.int .i64 ((fnd b c m b.length).1 : Nat), .int .u64 (b2i (fnd b c m b.length).2)]) ∧ Below w.heap.size w w' := by
  have HR := Aside0.mk hr
  have HBy := Aside0.mk hb
  have HL := Aside0.mk hl
  have HM := Aside0.mk hm0
  have HCB := Aside0.mk hc
  have hc1 : IntKind.u64.wrap c = c := by rw [IntKind.wrap_u64]; have := hc.1; have := hc.2; omega
  have hc2 : c % 18446744073709551616 = c := by have := hc.1; have := hc.2; omega
  have hm1 : IntKind.u64.wrap m = m := by rw [IntKind.wrap_u64]; have := hm0.1; have := hm0.2; omega
  have hm2 : m % 18446744073709551616 = m := by have := hm0.1; have := hm0.2; omega
  have hlw : IntKind.u64.wrap (b.length : Int) = (b.length : Int) := by rw [IntKind.wrap_u64]; omega
  clear hr hb hl hm0 hc
  go_enter Try.func28, Try.ntmps28
  go_wp2_with fail
  refine (spanNil (b.length : Int) _).mono ?_
  rintro e w1 ⟨rfl, hb1⟩
  have HB1 := Aside0.mk hb1
  clear hb1
  obtain ⟨wo, rfl⟩ : ∃ wo : World, wo = w1 := ⟨_, rfl⟩
  go_wp2_with fail
  go_loopw [10, 11, 23] (fun v10 v11 v23 wr => ∃ i : Nat, v10 = .int .u64 (((fnd b c m i).1 : Nat) : Int) ∧ v11 = .int .u64 (b2i (fnd b c m i).2) ∧ v23 = .int .i64 i ∧ Aside0 (i ≤ b.length) ∧ Aside0 (Below w.heap.size w wr)) (fun _ _ v23 _ => b.length - (intOf v23).toNat)
  case atStart => exact ⟨0, by first | rfl | (rw [hlw]; rfl), rfl, rfl, ⟨by omega⟩, HB1⟩
  case round =>
    obtain ⟨i, rfl, rfl, rfl, HI, HB⟩ := hrel
    have hi := HI.out
    have hle := fnd_le b c m i hi
    by_cases hlt : i < b.length
    · have HLT := Aside0.mk hlt
      have hlt' : decide ((i : Int) < (b.length : Int)) = true := by simp; omega
      have hlt2 : decide (i < b.length) = true := by simp; omega
      obtain ⟨ad, e1, hc0⟩ := (HR.out.below HB.out).at_ (i : Int) (by omega) (by omega)
      subst e1
      simp only [Int.toNat_natCast] at hc0
      have HX := Aside0.mk (HBy.out (i : Int))
      obtain ⟨x, hx⟩ : ∃ x, x = rd b (i : Int) := ⟨_, rfl⟩
      rw [← hx] at hc0 HX
      have hx1 : IntKind.u64.wrap x = x := by rw [IntKind.wrap_u64]; have := HX.out.1; have := HX.out.2; omega
      have hx2 : x % 18446744073709551616 = x := by have := HX.out.1; have := HX.out.2; omega
      have HXE := Aside0.mk hx
      clear hx
      obtain ⟨s, hs⟩ : ∃ s, s = fnd b c m i := ⟨_, rfl⟩
      rw [← hs] at hle ⊢
      obtain ⟨at_, fd⟩ := s
      have HSE := Aside0.mk hs
      clear hs
      have hU1 : U64 (i : Int) := ⟨by omega, by have := HL.out; omega⟩
      have hU2 : U64 (at_ : Int) := ⟨by omega, by have := HL.out; simp only at hle; omega⟩
      have hi1 : IntKind.u64.wrap (i : Int) = (i : Int) := by rw [IntKind.wrap_u64]; have := hU1.1; have := hU1.2; omega
      have hw3 : wrap64 ((i : Int) + 1) = (i : Int) + 1 := by have := HL.out; unfold wrap64; omega
      have hand := andNot_b2i
      have hor := or_b2i
      go_wp2_with fail
      refine (equal_any x c _ (byte_u HX.out) (byte_u HCB.out)).mono ?_
      rintro e w2 ⟨rfl, rfl⟩
      obtain ⟨p0, hp0⟩ : ∃ p, p = decide (x = c) := ⟨_, rfl⟩
      rw [← hp0]
      have HP0 := Aside0.mk hp0
      clear hp0
      go_wp2_with fail
      refine (less_any (i : Int) m _ hU1 HM.out).mono ?_
      rintro e w2 ⟨rfl, rfl⟩
      obtain ⟨p1, hp1⟩ : ∃ p, p = decide ((i : Int) < m) := ⟨_, rfl⟩
      rw [← hp1]
      have HP1 := Aside0.mk hp1
      clear hp1
      go_wp2_with fail
      refine (select_any (p0 && !fd && !p1) (i : Int) (at_ : Int) _ hU1 hU2).mono ?_
      rintro e w2 ⟨rfl, rfl⟩
      go_wp2_with fail
      go_roundw
      case rel =>
        have hh : hit b c m i fd = (p0 && !fd && !p1) := by rw [HP0.out, HP1.out, HXE.out]; rfl
        have hf : fnd b c m (i + 1) = (if (p0 && !fd && !p1) then i else at_, fd || (p0 && !fd && !p1)) := by
          show ((if hit b c m i (fnd b c m i).2 then i else (fnd b c m i).1), (fnd b c m i).2 || hit b c m i (fnd b c m i).2) = _
          rw [← HSE.out]
          show ((if hit b c m i fd then i else at_), fd || hit b c m i fd) = _
          rw [hh]
        refine ⟨i + 1, ?_, ?_, congrArg (Value.int .i64) (hw3.trans (by omega)), ⟨HLT.out⟩, HB⟩
        · rw [hf]
          unfold selI
          generalize (p0 && !fd && !p1) = q
          cases q <;> rfl
        · rw [hf]
      case measure => rw [hw3]; exact msr1 i b.length HLT.out
    · obtain rfl : i = b.length := by omega
      have hlt' : decide ((b.length : Int) < (b.length : Int)) = false := by simp
      obtain ⟨s, hs⟩ : ∃ s, s = fnd b c m b.length := ⟨_, rfl⟩
      rw [← hs] at hle ⊢
      obtain ⟨at_, fd⟩ := s
      have HSE := Aside0.mk hs
      clear hs
      have hw1 : wrap64 (at_ : Int) = (at_ : Int) := by simp only at hle; have := HL.out; unfold wrap64; omega
      have hw2 : IntKind.i64.wrap (at_ : Int) = (at_ : Int) := (i64_w _).trans hw1
      go_wp2_with fail
      refine bodyPost_ret (results_tmp2 rfl _ _ _) rfl ?_
      refine ⟨?_, HB.out⟩
      rw [← HSE.out]
      simp

/-! ### Equal -/
/-- Whether the first n bytes are alike. -/
def alike (a b : List Int) : Nat → Bool
  | 0 => true
  | i + 1 => alike a b i && decide (rd a (i : Int) = rd b (i : Int))
end Go.Proofs.Ytcjphioimmgbfaa.Tra
