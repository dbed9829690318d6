/- The walk of the law PadFinds. -/
import Derived.Test.YtcjphioimmgbfaaPdH
import Derived.Test.YtcjphioimmgbfaaPPadFindsx1
import Derived.Lib.Bytes
namespace Go.Proofs.Ytcjphioimmgbfaa.Tra
open Go.RowKit Go.Proofs.YtcjphioimmgbfaaW.PrintWords Go.Proofs.YtcjphioimmgbfaaW.PrintLast Go.Proofs.YtcjphioimmgbfaaW.PrintMore
set_option linter.unusedVariables false
set_option linter.unusedSimpArgs false

theorem u8_inj {x y : Int} (hx : Byte x) (hy : Byte y) (h : UInt8.ofNat x.toNat = UInt8.ofNat y.toNat) : x = y := by
  have h2 := congrArg UInt8.toNat h
  rw [UInt8.toNat_ofNat', UInt8.toNat_ofNat'] at h2
  have := hx.1
  have := hx.2
  have := hy.1
  have := hy.2
  omega
theorem bytes_eq : ∀ (a b : List Int), (∀ x ∈ a, Byte x) → (∀ x ∈ b, Byte x) → (Lib.bytesOf a = Lib.bytesOf b ↔ a = b)
  | [], [], _, _ => by simp
  | [], y :: b, _, _ => by simp [Lib.bytesOf]
  | x :: a, [], _, _ => by simp [Lib.bytesOf]
  | x :: a, y :: b, ha, hb => by
    have ih := bytes_eq a b (fun z hz => ha z (List.mem_cons_of_mem _ hz)) (fun z hz => hb z (List.mem_cons_of_mem _ hz))
    constructor
    · intro h
      have h2 : UInt8.ofNat x.toNat :: Lib.bytesOf a = UInt8.ofNat y.toNat :: Lib.bytesOf b := h
      injection h2 with h3 h4
      rw [u8_inj (ha x (by simp)) (hb y (by simp)) h3, ih.1 h4]
    · rintro h
      rw [h]
theorem mem_byte {a : List Int} (h : ∀ i, Byte (rd a i)) : ∀ x ∈ a, Byte x := by
  intro x hx
  obtain ⟨i, hi, e⟩ := List.mem_iff_getElem.1 hx
  have := h (i : Int)
  unfold rd at this
  simpa [List.getD, hi, e] using this
theorem sameAB (A A2 : Option Addr) (ca cb : Nat) (a b : List Int) (w : World) (ha : ReadsInt w .u8 A a.length a) (hca : a.length ≤ ca) (hb : ReadsInt w .u8 A2 b.length b) (hcb : b.length ≤ cb) (hba : ∀ i, Byte (rd a i)) (hbb : ∀ i, Byte (rd b i)) :
    Calls Try.prog 27 #[.slice A a.length ca, .slice A2 b.length cb] w fun e w' => e = .returned (.bool (decide (a = b))) ∧ Drawn0 w w' := by
  refine PPadDecodes.sconceref13_Same.calls A ca a A2 cb b (decide (a = b)) w (Kd.C_of_reads (d := (0 : Int)) (h1 := fun _ => rfl) ha) hca (Kd.C_of_reads (d := (0 : Int)) (h1 := fun _ => rfl) hb) hcb ?_
  unfold PPadDecodes.sconceref13_Same.f
  congr 1
  rw [Bool.eq_iff_iff]
  simp only [beq_iff_eq, decide_eq_true_eq]
  rw [Lib.strOfNums_toList, Lib.strOfNums_toList]
  exact bytes_eq a b (mem_byte hba) (mem_byte hbb)
theorem oneB (q : Bool) (w : World) : Calls Try.prog 30 #[.bool q] w fun e w' => e = .returned (.int .u64 (b2i q)) ∧ Drawn0 w w' :=
  PPadFinds.sconceref01_One.calls q (b2i q) w (by cases q <;> rfl)
set_option maxHeartbeats 1000000 in
set_option maxRecDepth 100000 in
theorem padFindsWalk (A A2 : Option Addr) (ca cb : Nat) (a b : List Int) (c f : Int) (w : World) (ha : ReadsInt w .u8 A a.length a) (hca : a.length ≤ ca) (hba : ∀ i, Byte (rd a i)) (hb : ReadsInt w .u8 A2 b.length b) (hcb : b.length ≤ cb) (hbb : ∀ i, Byte (rd b i)) (hc : Byte c) (hf : -9223372036854775808 ≤ f ∧ f ≤ 9223372036854775807) :
    Calls Try.prog 8 #[.slice A a.length ca, .slice A2 b.length cb, .int .u8 c, .int .i64 f] w fun e w' => e = .returned (.bool true) ∧ Below w.heap.size w w' := by
  have HA := Aside0.mk (And.intro ha (And.intro hca hba))
  have HB := Aside0.mk (And.intro hb (And.intro hcb hbb))
  have HF := Aside0.mk (And.intro hc hf)
  clear ha hca hba hb hcb hbb hc hf
  go_enter Try.func8, Try.ntmps8
  go_wp2_with fail
  refine (awakePad _).mono ?_
  rintro e w1 ⟨rfl, hb1⟩
  have HB1 := Aside0.mk hb1
  clear hb1
  obtain ⟨r, hr⟩ : ∃ r : Bool, r = decide (a.length ≤ 1200 ∧ b.length ≤ 1200) := ⟨_, rfl⟩
  go_wp2_with fail
  refine (few_any w1.heap.size 2 (fun i => if i = 0 then A else A2) (fun i => if i = 0 then a.length else b.length) (fun i => if i = 0 then ca else cb) r _ ?_ (by omega) ?_ ?_).mono ?_
  · intro i hi
    rcases i with _ | _ | i
    · simp
    · simp
    · omega
  · rw [hr]
    constructor
    · intro h i hi
      have h2 : a.length ≤ 1200 ∧ b.length ≤ 1200 := by simpa using h
      rcases i with _ | _ | i
      · exact h2.1
      · exact h2.2
      · omega
    · intro h
      have h0 := h 0 (by omega)
      have h1 := h 1 (by omega)
      simp at h0 h1
      simp [h0, h1]
  · intro i
    have h1 := HA.out.1.2.1
    have h2 := HB.out.1.2.1
    show (if i = 0 then a.length else b.length) ≤ _
    split
    · exact h1
    · exact h2
  rintro e w2 ⟨rfl, hb2⟩
  have HB2 := Aside0.mk (show Below w.heap.size w w2 from (HB1.out.trans ((below_alloc (Below.refl w1.heap.size w1) (.cells #[.slice A a.length ca, .slice A2 b.length cb] 42)).mono HB1.out.size)).trans (hb2.mono (by have := HB1.out.size; simp; omega)))
  clear hb2
  by_cases hl : a.length ≤ 1200 ∧ b.length ≤ 1200
  · obtain rfl : r = true := by rw [hr]; simpa using hl
    have HL := Aside0.mk hl
    clear hr hl
    obtain ⟨m, hm⟩ : ∃ m : Int, (if f < 0 then 0 else f) = m := ⟨_, rfl⟩
    have HM := Aside0.mk (show 0 ≤ m ∧ f ≤ m ∧ (m = 0 ∨ m = f) ∧ U64 m from by
      have := HF.out.2
      rw [← hm]
      unfold U64
      split <;> omega)
    go_wp2_with fail
    refine (findNil A2 cb b c f m _ (HB.out.1.below HB2.out) HB.out.2.2 HF.out.1 HL.out.2 hm HM.out.2.2.2).mono ?_
    rintro e w3 ⟨rfl, hb3⟩
    have HB3 := Aside0.mk (HB2.out.trans (hb3.mono HB2.out.size))
    have HFI := Aside0.mk (fnd_First b c m b.length)
    clear hb3 hm
    generalize (fnd b c m b.length).1 = at_ at HFI ⊢
    generalize (fnd b c m b.length).2 = fd at HFI ⊢
    obtain ⟨wo, rfl⟩ : ∃ wo : World, wo = w3 := ⟨_, rfl⟩
    go_wp2_with fail
    go_loopw [11, 12, 13] (fun v11 v12 v13 wr => ∃ (k x : Nat) (p : Bool), v11 = .int .i64 (x : Int) ∧ v12 = .int .u64 (b2i p) ∧ v13 = .int .i64 ((k : Int) - 1) ∧ Aside0 (k ≤ b.length ∧ (k = b.length ∨ m ≤ (k : Int)) ∧ First b c (k : Int) b.length x p) ∧ Aside0 (Below w.heap.size w wr)) (fun _ _ v13 _ => (intOf v13 + 1).toNat)
    case atStart =>
      refine ⟨b.length, b.length, false, rfl, rfl, ?_, ⟨Nat.le_refl _, .inl rfl, ⟨fun h => by simp at h, fun _ => ⟨rfl, fun j h1 h2 => by omega⟩⟩⟩, HB3⟩
      have := HL.out.2
      first | rfl | (refine congrArg (Value.int .i64) ?_; unfold wrap64; omega)
    case round =>
      obtain ⟨k, x, p, rfl, rfl, rfl, HK, HBw⟩ := hrel
      by_cases hg : m < (k : Int)
      · obtain ⟨i, rfl⟩ : ∃ i, k = i + 1 := ⟨k - 1, by have := HM.out.1; omega⟩
        rw [show ((i + 1 : Nat) : Int) - 1 = (i : Int) by omega]
        have g1 : decide ((i : Int) ≥ 0) = true := by simp
        have g2 : decide ((i : Int) ≥ f) = true := by have := HM.out.2.1; simp; omega
        have g2' : decide (f ≤ (i : Int)) = true := by have := HM.out.2.1; simp; omega
        have hib : i < b.length := HK.out.1
        obtain ⟨bd, e2, hc1⟩ := (HB.out.1.below HBw.out).at_ (i : Int) (by omega) (by omega)
        subst e2
        simp only [Int.toNat_natCast] at hc1
        obtain ⟨y, hy⟩ : ∃ y, y = rd b (i : Int) := ⟨_, rfl⟩
        rw [← hy] at hc1
        have hlb : (i : Int) < (b.length : Int) := by omega
        have hw3 : wrap64 ((i : Int) - 1) = (i : Int) - 1 := by have := HL.out.2; unfold wrap64; omega
        have HG := Aside0.mk hg
        clear hg
        by_cases hyc : y = c
        · have ty : (y == c) = true := by simp [hyc]
          have HY := Aside0.mk (show rd b (i : Int) = c from hy ▸ hyc)
          clear hy hyc
          go_wp2_with fail
          go_roundw
          case rel => exact ⟨i, i, true, rfl, rfl, by first | rfl | exact congrArg (Value.int .i64) hw3, ⟨by omega, .inr (by have := HG.out; omega), ⟨fun _ => ⟨hib, by omega, HY.out, fun j h1 h2 => by omega⟩, fun h => by simp at h⟩⟩, HBw⟩
          case measure => simp [intOf]; omega
        · have ty : (y == c) = false := by simp [hyc]
          have HY := Aside0.mk (show rd b (i : Int) ≠ c from hy ▸ hyc)
          clear hy hyc
          go_wp2_with fail
          go_roundw
          case rel =>
            refine ⟨i, x, p, rfl, rfl, by first | rfl | exact congrArg (Value.int .i64) hw3, ⟨by omega, .inr (by have := HG.out; omega), ⟨fun hp => ?_, fun hp => ?_⟩⟩, HBw⟩
            · obtain ⟨h1, h2, h3, h4⟩ := HK.out.2.2.1 hp
              refine ⟨h1, by omega, h3, fun j hj hjx => ?_⟩
              by_cases hji : j = i
              · subst hji; exact HY.out
              · exact h4 j (by omega) hjx
            · obtain ⟨h1, h2⟩ := HK.out.2.2.2 hp
              refine ⟨h1, fun j hj hjx => ?_⟩
              by_cases hji : j = i
              · subst hji; exact HY.out
              · exact h2 j (by omega) hjx
          case measure => simp [intOf]; omega
      · have HX := Aside0.mk (show First b c m b.length x p from by
          obtain ⟨h1, h2, h3⟩ := HK.out
          rcases h2 with h2 | h2
          · refine ⟨fun hp => ?_, fun hp => ⟨(h3.2 hp).1, fun j hj hjl => by omega⟩⟩
            obtain ⟨g1, g2, _⟩ := h3.1 hp
            omega
          · have : (k : Int) = m := by omega
            rwa [this] at h3)
        obtain ⟨hxa, hpf⟩ := First.unique HX.out HFI.out
        subst hxa hpf
        clear HX HFI
        rcases k with _ | i
        · rw [show ((0 : Nat) : Int) - 1 = -1 by omega]
          go_wp2_with fail
          refine (equalNil' A A2 ca cb a b _ (HA.out.1.below HBw.out) (HB.out.1.below HBw.out) HA.out.2.2 HB.out.2.2 HL.out.1 HL.out.2).mono ?_
          rintro e w4 ⟨rfl, hb4⟩
          have HB4 := Aside0.mk (HBw.out.trans (hb4.mono HBw.out.size))
          clear hb4
          go_wp2_with fail
          refine (sameAB A A2 ca cb a b _ (HA.out.1.below HB4.out) HA.out.2.1 (HB.out.1.below HB4.out) HB.out.2.1 HA.out.2.2 HB.out.2.2).mono ?_
          rintro e w5 ⟨rfl, hd⟩
          have HB5 := Aside0.mk (HB4.out.trans (hd.below.mono HB4.out.size))
          clear hd
          obtain ⟨q, hq⟩ : ∃ q, q = decide (a = b) := ⟨_, rfl⟩
          rw [← hq]
          clear hq
          go_wp2_with fail
          refine (oneB q _).mono ?_
          rintro e w6 ⟨rfl, hd⟩
          have HB6 := Aside0.mk (HB5.out.trans (hd.below.mono HB5.out.size))
          clear hd
          go_wp2_with fail
          go_ret
          exact ⟨rfl, HB6.out⟩
        · rw [show ((i + 1 : Nat) : Int) - 1 = (i : Int) by omega]
          have g1 : decide ((i : Int) ≥ 0) = true := by simp
          have g2 : decide ((i : Int) ≥ f) = false := by have := HM.out.2.2.1; simp; omega
          have g2' : decide (f ≤ (i : Int)) = false := by have := HM.out.2.2.1; simp; omega
          clear hg
          go_wp2_with fail
          refine (equalNil' A A2 ca cb a b _ (HA.out.1.below HBw.out) (HB.out.1.below HBw.out) HA.out.2.2 HB.out.2.2 HL.out.1 HL.out.2).mono ?_
          rintro e w4 ⟨rfl, hb4⟩
          have HB4 := Aside0.mk (HBw.out.trans (hb4.mono HBw.out.size))
          clear hb4
          go_wp2_with fail
          refine (sameAB A A2 ca cb a b _ (HA.out.1.below HB4.out) HA.out.2.1 (HB.out.1.below HB4.out) HB.out.2.1 HA.out.2.2 HB.out.2.2).mono ?_
          rintro e w5 ⟨rfl, hd⟩
          have HB5 := Aside0.mk (HB4.out.trans (hd.below.mono HB4.out.size))
          clear hd
          obtain ⟨q, hq⟩ : ∃ q, q = decide (a = b) := ⟨_, rfl⟩
          rw [← hq]
          clear hq
          go_wp2_with fail
          refine (oneB q _).mono ?_
          rintro e w6 ⟨rfl, hd⟩
          have HB6 := Aside0.mk (HB5.out.trans (hd.below.mono HB5.out.size))
          clear hd
          go_wp2_with fail
          go_ret
          exact ⟨rfl, HB6.out⟩
  · obtain rfl : r = false := by rw [hr]; simpa using hl
    clear hr hl
    go_wp2_with fail
    go_ret
    exact ⟨rfl, HB2.out⟩
theorem wf64 {n : Int} (h : (Lit.int .i64 n).wf = true) : -9223372036854775808 ≤ n ∧ n ≤ 9223372036854775807 := by
  have h2 : IntKind.i64.min ≤ n ∧ n ≤ IntKind.i64.max := by simpa [Lit.wf] using h
  exact h2
theorem wf8 {n : Int} (h : (Lit.int .u8 n).wf = true) : Byte n := by
  have h2 : IntKind.u8.min ≤ n ∧ n ≤ IntKind.u8.max := by simpa [Lit.wf] using h
  have h3 : (0 : Int) ≤ n ∧ n ≤ 255 := h2
  exact ⟨h3.1, by omega⟩
end Go.Proofs.Ytcjphioimmgbfaa.Tra
